/-
  The walk of mask.Multiply.
-/
import Derived.Test.YtndablijjkchjaaMk3
import Derived.Test.YtndablijjkchjaaMn8
import Derived.Test.YtndablijjkchjaaMkMadeM
import Derived.Test.YtndablijjkchjaaPlA
namespace Go.Proofs.Ytndablijjkchjaa
open Go.RowKit
set_option linter.unusedSimpArgs false
set_option linter.unusedVariables false

/-- The product of masks: values, rectangle, error. -/
def foldV (l : List Mk) (v : Int) (x y : Int) : Int := l.foldl (fun v b => mn8 v (atL 0 b.r b.l x y)) v
def mulG (l : List Mk) (x y : Int) : Int := match l with
  | [] => 0
  | a :: t => foldV t (atL 0 a.r a.l x y) x y
def foldR (l : List Mk) (r : Rc) : Rc := l.foldl (fun r b => interR r b.r) r
def mulR0 (l : List Mk) : Rc := match l with
  | [] => ⟨0, 0, 0, 0⟩
  | a :: t => foldR t a.r
def mulR (l : List Mk) : Rc := if l.all vMk then mulR0 l else ⟨0, 0, 0, 0⟩
def mulL (l : List Mk) : List Int := if l.all vMk then pixL (mulG l) (mulR0 l) else []
def mulE (l : List Mk) : Int := if l.all vMk then 0 else 14
theorem foldV_snoc (l : List Mk) (b : Mk) (v x y : Int) : foldV (l ++ [b]) v x y = mn8 (foldV l v x y) (atL 0 b.r b.l x y) := by unfold foldV; rw [List.foldl_append]; rfl
theorem foldR_snoc (l : List Mk) (b : Mk) (r : Rc) : foldR (l ++ [b]) r = interR (foldR l r) b.r := by unfold foldR; rw [List.foldl_append]; rfl
theorem foldV_bd : ∀ (l : List Mk) {v : Int} (x y : Int), (∀ b ∈ l, bytesB b.l) → 0 ≤ v → v ≤ 255 → 0 ≤ foldV l v x y ∧ foldV l v x y ≤ 255
  | [], v, _, _, _, h0, h1 => ⟨h0, h1⟩
  | b :: l, v, x, y, h, h0, h1 => by
    have hb := atL_byte (r := b.r) (h b List.mem_cons_self) x y
    have hm := mn8_bd h0 h1 hb.1 hb.2
    exact foldV_bd l x y (fun c hc => h c (List.mem_cons_of_mem _ hc)) hm.1 hm.2.1
theorem inter_cn (a b : Rc) : canonR (interR a b) = interR a b := by unfold interR; rw [canon_canon]
theorem inter_self {r : Rc} (h : canonR r = r) : interR r r = r := by
  unfold interR
  rw [h, Int.max_self, Int.max_self, Int.min_self, Int.min_self]
  exact h
theorem foldR_cn : ∀ (l : List Mk) {r : Rc}, canonR r = r → canonR (foldR l r) = foldR l r
  | [], _, h => h
  | b :: l, r, _ => foldR_cn l (inter_cn r b.r)
theorem mulR0_cn {l : List Mk} (h : l.all vMk = true) : canonR (mulR0 l) = mulR0 l := by
  cases l with
  | nil => rfl
  | cons a t =>
    refine foldR_cn t ?_
    simp only [List.all_cons, Bool.and_eq_true] at h
    exact (mk_cn h.1).1
theorem take_one {α : Type} {l : List α} {k : Nat} (h : k < l.length) : l.take (k + 1) = l.take k ++ [l[k]] := List.take_succ_eq_append_getElem h
set_option maxHeartbeats 3200000 in
theorem mul1_any (x y : Int) (c0 : Nat) (A : Option Addr) (n c : Nat) (a : Mk) (t : List Mk) (w0 w : World) (hw : Below w0.heap.size w0 w) (HR : Hid (RdL encMk 5 w0 A (a :: t))) (Hn : Hid (t.length + 1 = n)) (hn2 : n ≤ 4000000000) (hnc : n ≤ c) (hcm : c ≤ maxLen)
    (HO : Hid (∀ b ∈ a :: t, b.ok w0)) (HSZ : Hid (∀ b ∈ a :: t, b.n ≤ 4000000000)) (HV : Hid (∀ b ∈ a :: t, vMk b = true)) (hC : Bk w c0 22 #[.slice A n c]) (p : Int) (Hp : Hid (mulG (a :: t) x y = p)) :
    Calls Try.prog 50 #[.int .i64 x, .int .i64 y, .pointer (some ⟨c0, 0, none⟩)] w fun e w' => e = .returned (.int .u8 p) ∧ Below w.heap.size w w' := by
  obtain ⟨kc, kf, ka, kg, kl⟩ := hC.rules
  have hal : 0 < (a :: t).length := by simp
  obtain ⟨gb, ob, rfl, hg, c0', c1', c2', c3', c4'⟩ := rdk (HR.out.below hw) hal
  have HAO : Hid (a.ok w0) := HO.out a List.mem_cons_self
  have HAS := HSZ.out a List.mem_cons_self
  have HAV : Hid ((a.n : Int) = areaR a.r) := by unfold Hid; rw [← HAO.out.ln]; exact (mk_cn (HV.out a List.mem_cons_self)).2.1
  obtain ⟨pa, Hpa⟩ : ∃ p, Hid (atL 0 a.r a.l x y = p) := ⟨_, rfl⟩
  have ba := atL_byte (r := a.r) HAO.out.byte x y
  rw [Hpa.out] at ba
  have Hp' : Hid (foldV t pa x y = p) := by have h := Hp.out; unfold mulG at h; simp only at h; rw [Hpa.out] at h; exact h
  have hn1 : 1 ≤ n := by have := Hn.out; omega
  obtain ⟨m, hm⟩ : ∃ m : Nat, n = m + 1 := ⟨n - 1, by omega⟩
  have Hm : Hid (t.length = m) := by have := Hn.out; unfold Hid; omega
  subst hm
  unfold maxLen at hcm
  clear hn1
  have c0z : w.cell? ⟨gb, ob, none⟩ = some (.int .i64 a.r.x0) := by simpa using c0'
  have c1z : w.cell? ⟨gb, ob + 1, none⟩ = some (.int .i64 a.r.y0) := by simpa using c1'
  have c2z : w.cell? ⟨gb, ob + 2, none⟩ = some (.int .i64 a.r.x1) := by simpa using c2'
  have c3z : w.cell? ⟨gb, ob + 3, none⟩ = some (.int .i64 a.r.y1) := by simpa using c3'
  have c4z : w.cell? ⟨gb, ob + 4, none⟩ = some (.slice a.A a.n a.c) := by simpa using c4'
  clear c0' c1' c2' c3' c4' hal
  by_cases hc : c = 1
  · obtain rfl : c = 1 := hc
    obtain rfl : m = 0 := by omega
    have HE : Hid (pa = p) := by
      have h1 := Hm.out
      have h2 := Hp'.out
      rw [List.eq_nil_of_length_eq_zero h1] at h2
      exact h2
    go_enter Try.func50, Try.ntmps50
    go_wp2_with fail
    refine (mat_any a.r a.A a.n a.c a.l _ _ _ (HAO.out.rd.below (bstep (by show Below w.heap.size w _; exact (by repeat (first | (with_reducible exact Below.refl _ _) | (with_reducible refine balloc ?_ _) | (with_reducible refine Below.drew ?_) | (with_reducible refine bdrewN ?_ _) | ((with_reducible refine bset ?_ ?_ _); rotate_left; focus (first | (with_reducible exact Nat.le_refl _) | (simp; done) | (simp; omega) | omega)) | (with_reducible refine bstep (by with_reducible assumption) ?_)))) hw)) HAO.out.ln HAS HAV.out pa Hpa).mono ?_
    rintro e w1 ⟨rfl, hb1⟩
    clear kc kf ka kg c0z c1z c2z c3z c4z
    have hC1 := hC.below hb1
    obtain ⟨kc, kf, ka, kg, kl1⟩ := hC1.rules
    go_wp2_with fail
    go_loopw [6, 18] (fun u i wr => u = .int .u8 pa ∧ i = .int .i64 0 ∧ wr = w1) (fun _ i _ => 0)
    case atStart => exact ⟨rfl, rfl, rfl⟩
    case round =>
      obtain ⟨rfl, rfl, rfl⟩ := hrel
      go_wp2
      go_ret
      rw [HE.out]
      exact ⟨rfl, hb1⟩
  · go_enter Try.func50, Try.ntmps50
    go_wp2_with fail
    refine (mat_any a.r a.A a.n a.c a.l _ _ _ (HAO.out.rd.below (bstep (by show Below w.heap.size w _; exact (by repeat (first | (with_reducible exact Below.refl _ _) | (with_reducible refine balloc ?_ _) | (with_reducible refine Below.drew ?_) | (with_reducible refine bdrewN ?_ _) | ((with_reducible refine bset ?_ ?_ _); rotate_left; focus (first | (with_reducible exact Nat.le_refl _) | (simp; done) | (simp; omega) | omega)) | (with_reducible refine bstep (by with_reducible assumption) ?_)))) hw)) HAO.out.ln HAS HAV.out pa Hpa).mono ?_
    rintro e w1 ⟨rfl, hb1⟩
    clear kc kf ka kg c0z c1z c2z c3z c4z
    have hC1 := hC.below hb1
    obtain ⟨kc, kf, ka, kg, kl1⟩ := hC1.rules
    go_wp2_with fail
    go_loopw [6, 18] (fun u i wr => ∃ (k : Nat) (v : Int), k ≤ m ∧ i = .int .i64 k ∧ u = .int .u8 v ∧ Hid (foldV (t.take k) pa x y = v) ∧ 0 ≤ v ∧ v ≤ 255 ∧ Below w.heap.size w wr) (fun _ i _ => m - (intOf i).toNat)
    case atStart => exact ⟨0, pa, Nat.zero_le _, rfl, rfl, by unfold Hid; simp [foldV], ba.1, ba.2, hb1⟩
    case round =>
      obtain ⟨k, v, hk, rfl, rfl, HF, v0, v1, hbw⟩ := hrel
      by_cases hlt : k < m
      · have hkt : k < t.length := by have := Hm.out; omega
        have hkl : k + 1 < (a :: t).length := by simp; exact hkt
        have hw1 : Below w0.heap.size w0 wr := bstep hbw hw
        obtain ⟨gb', ob', hA', hg', d0, d1, d2, d3, d4⟩ := rdk (HR.out.below hw1) hkl
        obtain ⟨rfl, rfl⟩ : gb = gb' ∧ ob = ob' := by injection hA' with h; injection h with h1 h2; exact ⟨h1, h2⟩
        obtain ⟨b, Hb⟩ : ∃ b, Hid (t[k] = b) := ⟨t[k], rfl⟩
        have eb : (a :: t)[k + 1] = b := Hb.out
        have hmem : b ∈ a :: t := by rw [← eb]; exact List.getElem_mem hkl
        rw [eb, show ob + (k + 1) * 5 = ob + 5 + k * 5 by omega] at d0 d1 d2 d3 d4
        have HBO : Hid (b.ok w0) := HO.out b hmem
        have HBS := HSZ.out b hmem
        have HBV : Hid ((b.n : Int) = areaR b.r) := by unfold Hid; rw [← HBO.out.ln]; exact (mk_cn (HV.out b hmem)).2.1
        obtain ⟨pb, Hpb⟩ : ∃ p, Hid (atL 0 b.r b.l x y = p) := ⟨_, rfl⟩
        have bb := atL_byte (r := b.r) HBO.out.byte x y
        rw [Hpb.out] at bb
        obtain ⟨v', Hv'⟩ : ∃ v', Hid (mn8 v pb = v') := ⟨_, rfl⟩
        have bv := mn8_bd v0 v1 bb.1 bb.2
        have HM := Lib.hid (fun w => mn8_any v pb w v0 v1 bb.1 bb.2)
        rw [Hv'.out] at HM bv
        have HF' : Hid (foldV (t.take (k + 1)) pa x y = v') := by
          unfold Hid; rw [take_one hkt, foldV_snoc, HF.out, Hb.out, Hpb.out, Hv'.out]
        have i0 : (0 : Int) ≤ (k : Int) := by omega
        have i1 : (k : Int) < (m : Int) := by omega
        clear eb hmem hkl HF hA'
        go_wp2_with fail
        refine (mat_any b.r b.A b.n b.c b.l _ _ _ (HBO.out.rd.below (bstep (by show Below wr.heap.size wr _; exact (by repeat (first | (with_reducible exact Below.refl _ _) | (with_reducible refine balloc ?_ _) | (with_reducible refine Below.drew ?_) | (with_reducible refine bdrewN ?_ _) | ((with_reducible refine bset ?_ ?_ _); rotate_left; focus (first | (with_reducible exact Nat.le_refl _) | (simp; done) | (simp; omega) | omega)) | (with_reducible refine bstep (by with_reducible assumption) ?_)))) hw1)) HBO.out.ln HBS HBV.out pb Hpb).mono ?_
        rintro e w2 ⟨rfl, hb2⟩
        clear d0 d1 d2 d3 d4
        go_wp2_with fail
        refine (HM.out _).mono ?_
        rintro e w3 ⟨rfl, hb3⟩
        have hB3 : Below wr.heap.size wr w3 := (by repeat (first | (with_reducible exact Below.refl _ _) | (with_reducible refine balloc ?_ _) | (with_reducible refine Below.drew ?_) | (with_reducible refine bdrewN ?_ _) | ((with_reducible refine bset ?_ ?_ _); rotate_left; focus (first | (with_reducible exact Nat.le_refl _) | (simp; done) | (simp; omega) | omega)) | (with_reducible refine bstep (by with_reducible assumption) ?_)))
        have hB4 : Below w.heap.size w w3 := bstep hB3 hbw
        go_wp2
        go_roundw
        case rel => exact ⟨k + 1, v', by omega, by go_num, rfl, HF', bv.1, bv.2.1, hB4⟩
        case measure => simp [intOf]; omega
      · have HE : Hid (v = p) := by
          unfold Hid
          rw [← HF.out, ← Hp'.out, List.take_of_length_le (by have := Hm.out; omega)]
        go_wp2
        go_ret
        rw [HE.out]
        exact ⟨rfl, hbw⟩

set_option maxHeartbeats 6400000 in
theorem mmul_any (A : Option Addr) (n c : Nat) (l : List Mk) (w : World) (hr : RdL encMk 5 w A l) (hn : l.length = n) (hn2 : n ≤ 4000000000) (hnc : n ≤ c) (hcm : c ≤ maxLen) (ho : ∀ b ∈ l, b.ok w) (hs : ∀ b ∈ l, b.n ≤ 4000000000) :
    Calls Try.prog 17 #[.slice A n c] w (RetME (mulR l) (mulL l) (mulE l) w) := by
  have HR := Lib.hid hr
  have Hn := Lib.hid hn
  have HO := Lib.hid ho
  have HSZ := Lib.hid hs
  clear hr hn ho hs
  cases hv : l.all vMk with
  | false =>
    have Hv := Lib.hid hv
    have e1 : mulR l = ⟨0, 0, 0, 0⟩ := by unfold mulR; rw [hv]; rfl
    have e2 : mulL l = [] := by unfold mulL; rw [hv]; rfl
    have e3 : mulE l = 14 := by unfold mulE; rw [hv]; rfl
    rw [e1, e2, e3]
    clear e1 e2 e3 hv
    go_enter Try.func17, Try.ntmps17
    go_wp2_with fail
    refine (mall_any A n c l _ (HR.out.below (by repeat (first | (with_reducible exact Below.refl _ _) | (with_reducible refine balloc ?_ _) | (with_reducible refine Below.drew ?_) | (with_reducible refine bdrewN ?_ _) | ((with_reducible refine bset ?_ ?_ _); rotate_left; focus (first | (with_reducible exact Nat.le_refl _) | (simp; done) | (simp; omega) | omega)) | (with_reducible refine bstep (by with_reducible assumption) ?_)))) Hn.out hn2 (fun x hx => (HO.out x hx).below (by repeat (first | (with_reducible exact Below.refl _ _) | (with_reducible refine balloc ?_ _) | (with_reducible refine Below.drew ?_) | (with_reducible refine bdrewN ?_ _) | ((with_reducible refine bset ?_ ?_ _); rotate_left; focus (first | (with_reducible exact Nat.le_refl _) | (simp; done) | (simp; omega) | omega)) | (with_reducible refine bstep (by with_reducible assumption) ?_)))) HSZ.out false Hv).mono ?_
    rintro e w1 ⟨rfl, hb1⟩
    have kO1 : Bk w1 (w.heap.size + 1) 29 #[.int .i64 0, .int .i64 0, .int .i64 0, .int .i64 0, .slice none 0 0] := (by repeat (first | (with_reducible assumption) | ((with_reducible refine Bk.new _ _ _ ?_); first | (with_reducible rfl) | (simp; done)) | (with_reducible refine Bk.alloc ?_ _) | (with_reducible refine Bk.drew ?_) | (with_reducible refine Bk.drewN ?_ _) | ((with_reducible refine Bk.far ?_ ?_ _); rotate_left; focus (first | (simp; done) | (simp; omega))) | (with_reducible refine Bk.below ?_ (by with_reducible assumption)))); obtain ⟨kcO1, kfO1, kaO1, kgO1, klO1⟩ := kO1.rules
    go_wp2
    refine bodyPost_ret (v := _) ?_ rfl (RetME.no 14 (by repeat (first | (with_reducible exact Below.refl _ _) | (with_reducible refine balloc ?_ _) | (with_reducible refine Below.drew ?_) | (with_reducible refine bdrewN ?_ _) | ((with_reducible refine bset ?_ ?_ _); rotate_left; focus (first | (with_reducible exact Nat.le_refl _) | (simp; done) | (simp; omega) | omega)) | (with_reducible refine bstep (by with_reducible assumption) ?_))))
    simp [results, Try.results17, go_sem, kcO1]
  | true =>
    have Hv := Lib.hid hv
    have e3 : mulE l = 0 := by unfold mulE; rw [hv]; rfl
    have e4 : mulR l = mulR0 l := by unfold mulR; rw [hv]; rfl
    have e5 : mulL l = pixL (mulG l) (mulR0 l) := by unfold mulL; rw [hv]; rfl
    have HC0 := Lib.hid (mulR0_cn hv)
    rw [e3, e4, e5]
    clear e3 e4 e5 hv
    cases l with
    | nil =>
      obtain rfl : 0 = n := Hn.out
      have e6 : pixL (mulG []) (mulR0 []) = [] := rfl
      have e7 : mulR0 [] = ⟨0, 0, 0, 0⟩ := rfl
      rw [e6, e7]
      clear e6 e7

      go_enter Try.func17, Try.ntmps17
      go_wp2_with fail
      refine (mall_any A 0 c [] _ (HR.out.below (by repeat (first | (with_reducible exact Below.refl _ _) | (with_reducible refine balloc ?_ _) | (with_reducible refine Below.drew ?_) | (with_reducible refine bdrewN ?_ _) | ((with_reducible refine bset ?_ ?_ _); rotate_left; focus (first | (with_reducible exact Nat.le_refl _) | (simp; done) | (simp; omega) | omega)) | (with_reducible refine bstep (by with_reducible assumption) ?_)))) Hn.out hn2 (fun x hx => (HO.out x hx).below (by repeat (first | (with_reducible exact Below.refl _ _) | (with_reducible refine balloc ?_ _) | (with_reducible refine Below.drew ?_) | (with_reducible refine bdrewN ?_ _) | ((with_reducible refine bset ?_ ?_ _); rotate_left; focus (first | (with_reducible exact Nat.le_refl _) | (simp; done) | (simp; omega) | omega)) | (with_reducible refine bstep (by with_reducible assumption) ?_)))) HSZ.out true Hv).mono ?_
      rintro e w1 ⟨rfl, hb1⟩
      have kL1 : Bk w1 (w.heap.size) 22 #[.slice A 0 c] := (by repeat (first | (with_reducible assumption) | ((with_reducible refine Bk.new _ _ _ ?_); first | (with_reducible rfl) | (simp; done)) | (with_reducible refine Bk.alloc ?_ _) | (with_reducible refine Bk.drew ?_) | (with_reducible refine Bk.drewN ?_ _) | ((with_reducible refine Bk.far ?_ ?_ _); rotate_left; focus (first | (simp; done) | (simp; omega))) | (with_reducible refine Bk.below ?_ (by with_reducible assumption)))); obtain ⟨kcL1, kfL1, kaL1, kgL1, klL1⟩ := kL1.rules; have kO1 : Bk w1 (w.heap.size + 1) 29 #[.int .i64 0, .int .i64 0, .int .i64 0, .int .i64 0, .slice none 0 0] := (by repeat (first | (with_reducible assumption) | ((with_reducible refine Bk.new _ _ _ ?_); first | (with_reducible rfl) | (simp; done)) | (with_reducible refine Bk.alloc ?_ _) | (with_reducible refine Bk.drew ?_) | (with_reducible refine Bk.drewN ?_ _) | ((with_reducible refine Bk.far ?_ ?_ _); rotate_left; focus (first | (simp; done) | (simp; omega))) | (with_reducible refine Bk.below ?_ (by with_reducible assumption)))); obtain ⟨kcO1, kfO1, kaO1, kgO1, klO1⟩ := kO1.rules
      go_wp2
      refine bodyPost_ret (v := _) ?_ rfl (RetME.no 0 (by repeat (first | (with_reducible exact Below.refl _ _) | (with_reducible refine balloc ?_ _) | (with_reducible refine Below.drew ?_) | (with_reducible refine bdrewN ?_ _) | ((with_reducible refine bset ?_ ?_ _); rotate_left; focus (first | (with_reducible exact Nat.le_refl _) | (simp; done) | (simp; omega) | omega)) | (with_reducible refine bstep (by with_reducible assumption) ?_))))
      simp [results, Try.results17, go_sem, kcO1]

    | cons a t =>
      have hal : 0 < (a :: t).length := by simp
      have hn1 : 1 ≤ n := by have h := Hn.out; simp at h; omega
      have hne : ((n : Int) == 0) = false := by simp; omega
      have i0n : (0 : Int) < (n : Int) := by omega
      have HVV : Hid (∀ b ∈ a :: t, vMk b = true) := fun b hb => List.all_eq_true.1 Hv.out b hb
      obtain ⟨q, Hq⟩ : ∃ q, Hid (mulR0 (a :: t) = q) := ⟨_, rfl⟩
      rw [Hq.out] at HC0 ⊢
      obtain ⟨g, Hg⟩ : ∃ g, Hid (mulG (a :: t) = g) := ⟨_, rfl⟩
      rw [Hg.out]
      have Hac : Hid (canonR a.r = a.r) := (mk_cn (HVV.out a List.mem_cons_self)).1
      go_enter Try.func17, Try.ntmps17
      go_wp2_with fail
      refine (mall_any A n c (a :: t) _ (HR.out.below (by repeat (first | (with_reducible exact Below.refl _ _) | (with_reducible refine balloc ?_ _) | (with_reducible refine Below.drew ?_) | (with_reducible refine bdrewN ?_ _) | ((with_reducible refine bset ?_ ?_ _); rotate_left; focus (first | (with_reducible exact Nat.le_refl _) | (simp; done) | (simp; omega) | omega)) | (with_reducible refine bstep (by with_reducible assumption) ?_)))) Hn.out hn2 (fun x hx => (HO.out x hx).below (by repeat (first | (with_reducible exact Below.refl _ _) | (with_reducible refine balloc ?_ _) | (with_reducible refine Below.drew ?_) | (with_reducible refine bdrewN ?_ _) | ((with_reducible refine bset ?_ ?_ _); rotate_left; focus (first | (with_reducible exact Nat.le_refl _) | (simp; done) | (simp; omega) | omega)) | (with_reducible refine bstep (by with_reducible assumption) ?_)))) HSZ.out true Hv).mono ?_
      rintro e w1 ⟨rfl, hb1⟩
      have kL1 : Bk w1 (w.heap.size) 22 #[.slice A n c] := (by repeat (first | (with_reducible assumption) | ((with_reducible refine Bk.new _ _ _ ?_); first | (with_reducible rfl) | (simp; done)) | (with_reducible refine Bk.alloc ?_ _) | (with_reducible refine Bk.drew ?_) | (with_reducible refine Bk.drewN ?_ _) | ((with_reducible refine Bk.far ?_ ?_ _); rotate_left; focus (first | (simp; done) | (simp; omega))) | (with_reducible refine Bk.below ?_ (by with_reducible assumption)))); obtain ⟨kcL1, kfL1, kaL1, kgL1, klL1⟩ := kL1.rules; have kO1 : Bk w1 (w.heap.size + 1) 29 #[.int .i64 0, .int .i64 0, .int .i64 0, .int .i64 0, .slice none 0 0] := (by repeat (first | (with_reducible assumption) | ((with_reducible refine Bk.new _ _ _ ?_); first | (with_reducible rfl) | (simp; done)) | (with_reducible refine Bk.alloc ?_ _) | (with_reducible refine Bk.drew ?_) | (with_reducible refine Bk.drewN ?_ _) | ((with_reducible refine Bk.far ?_ ?_ _); rotate_left; focus (first | (simp; done) | (simp; omega))) | (with_reducible refine Bk.below ?_ (by with_reducible assumption)))); obtain ⟨kcO1, kfO1, kaO1, kgO1, klO1⟩ := kO1.rules
      have hB1 : Below w.heap.size w w1 := (by repeat (first | (with_reducible exact Below.refl _ _) | (with_reducible refine balloc ?_ _) | (with_reducible refine Below.drew ?_) | (with_reducible refine bdrewN ?_ _) | ((with_reducible refine bset ?_ ?_ _); rotate_left; focus (first | (with_reducible exact Nat.le_refl _) | (simp; done) | (simp; omega) | omega)) | (with_reducible refine bstep (by with_reducible assumption) ?_)))
      obtain ⟨gb, ob, rfl, hg, c0', c1', c2', c3', c4'⟩ := rdk (HR.out.below hB1) hal
      have c0z : w1.cell? ⟨gb, ob, none⟩ = some (.int .i64 a.r.x0) := by simpa using c0'
      have c1z : w1.cell? ⟨gb, ob + 1, none⟩ = some (.int .i64 a.r.y0) := by simpa using c1'
      have c2z : w1.cell? ⟨gb, ob + 2, none⟩ = some (.int .i64 a.r.x1) := by simpa using c2'
      have c3z : w1.cell? ⟨gb, ob + 3, none⟩ = some (.int .i64 a.r.y1) := by simpa using c3'
      clear c0' c1' c2' c3' c4' hal
      have sz1 := kO1.lt
      go_wp2_with fail
      clear c0z c1z c2z c3z hne
      go_loopw [21] (fun i wr => ∃ (k : Nat) (bx : Rc), k ≤ n ∧ i = .int .i64 k ∧ Bk wr w.heap.size 22 #[.slice (some ⟨gb, ob, none⟩) n c] ∧ Bk wr (w.heap.size + 1) 29 #[.int .i64 0, .int .i64 0, .int .i64 0, .int .i64 0, .slice none 0 0] ∧ Bk wr w1.heap.size 26 #[.int .i64 bx.x0, .int .i64 bx.y0, .int .i64 bx.x1, .int .i64 bx.y1] ∧ Hid (foldR ((a :: t).take k) a.r = bx) ∧ Below w.heap.size w wr) (fun i _ => n - (intOf i).toNat)
      case atStart => exact ⟨0, a.r, Nat.zero_le _, rfl, kL1.alloc _, kO1.alloc _, Bk.new _ _ _ rfl, rfl, (by repeat (first | (with_reducible exact Below.refl _ _) | (with_reducible refine balloc ?_ _) | (with_reducible refine Below.drew ?_) | (with_reducible refine bdrewN ?_ _) | ((with_reducible refine bset ?_ ?_ _); rotate_left; focus (first | (with_reducible exact Nat.le_refl _) | (simp; done) | (simp; omega) | omega)) | (with_reducible refine bstep (by with_reducible assumption) ?_)))⟩
      case round =>
        obtain ⟨k, bx, hk, rfl, jL, jO, jR, HX, hbw⟩ := hrel
        obtain ⟨kcR, kfR, kaR, kgR, klR⟩ := jR.rules
        by_cases hlt : k < n
        · have hkl : k < (a :: t).length := by have := Hn.out; omega
          obtain ⟨gb', ob', hA', hg', d0, d1, d2, d3, d4⟩ := rdk (HR.out.below hbw) hkl
          obtain ⟨rfl, rfl⟩ : gb = gb' ∧ ob = ob' := by injection hA' with h; injection h with h1 h2; exact ⟨h1, h2⟩
          obtain ⟨b, Hb⟩ : ∃ b, Hid ((a :: t)[k] = b) := ⟨(a :: t)[k], rfl⟩
          rw [Hb.out] at d0 d1 d2 d3 d4
          obtain ⟨b2, Hb2⟩ : ∃ u, Hid (interR ⟨bx.x0, bx.y0, bx.x1, bx.y1⟩ ⟨b.r.x0, b.r.y0, b.r.x1, b.r.y1⟩ = u) := ⟨_, rfl⟩
          have HX' : Hid (foldR ((a :: t).take (k + 1)) a.r = b2) := by
            unfold Hid; rw [take_one hkl, foldR_snoc, HX.out, Hb.out]; exact Hb2.out
          have i0 : (0 : Int) ≤ (k : Int) := by omega
          have i1 : (k : Int) < (n : Int) := by omega
          clear hA' HX
          go_wp2_with fail
          refine (inter_q _ _ _ _ _ _ _ _ b2 Hb2 _).mono ?_
          rintro e w2 ⟨rfl, hb2⟩
          clear d0 d1 d2 d3 d4 kcR kfR kaR kgR
          have iL := (jL.alloc _).below hb2
          have iO := (jO.alloc _).below hb2
          have iR := (jR.alloc _).below hb2
          have hB2 : Below w.heap.size w w2 := (by repeat (first | (with_reducible exact Below.refl _ _) | (with_reducible refine balloc ?_ _) | (with_reducible refine Below.drew ?_) | (with_reducible refine bdrewN ?_ _) | ((with_reducible refine bset ?_ ?_ _); rotate_left; focus (first | (with_reducible exact Nat.le_refl _) | (simp; done) | (simp; omega) | omega)) | (with_reducible refine bstep (by with_reducible assumption) ?_)))
          have mL : Bk _ (w.heap.size) 22 #[.slice (some ⟨gb, ob, none⟩) n c] := ((((iL.far (p := ⟨w1.heap.size, 0, none⟩) (show (w.heap.size ≠ w1.heap.size) by omega) (.int .i64 b2.x0)).far (p := ⟨w1.heap.size, 1, none⟩) (show (w.heap.size ≠ w1.heap.size) by omega) (.int .i64 b2.y0)).far (p := ⟨w1.heap.size, 2, none⟩) (show (w.heap.size ≠ w1.heap.size) by omega) (.int .i64 b2.x1)).far (p := ⟨w1.heap.size, 3, none⟩) (show (w.heap.size ≠ w1.heap.size) by omega) (.int .i64 b2.y1))
          have mO : Bk _ (w.heap.size + 1) 29 #[.int .i64 0, .int .i64 0, .int .i64 0, .int .i64 0, .slice none 0 0] := ((((iO.far (p := ⟨w1.heap.size, 0, none⟩) (show (w.heap.size + 1 ≠ w1.heap.size) by omega) (.int .i64 b2.x0)).far (p := ⟨w1.heap.size, 1, none⟩) (show (w.heap.size + 1 ≠ w1.heap.size) by omega) (.int .i64 b2.y0)).far (p := ⟨w1.heap.size, 2, none⟩) (show (w.heap.size + 1 ≠ w1.heap.size) by omega) (.int .i64 b2.x1)).far (p := ⟨w1.heap.size, 3, none⟩) (show (w.heap.size + 1 ≠ w1.heap.size) by omega) (.int .i64 b2.y1))
          have mR : Bk _ (w1.heap.size) 26 #[.int .i64 b2.x0, .int .i64 b2.y0, .int .i64 b2.x1, .int .i64 b2.y1] := ((((iR.set 0 (.int .i64 b2.x0)).set 1 (.int .i64 b2.y0)).set 2 (.int .i64 b2.x1)).set 3 (.int .i64 b2.y1))
          have hB3 := (bset (bset (bset (bset hB2 (p := ⟨w1.heap.size, 0, none⟩) (by show _ ≤ w1.heap.size; omega) (.int .i64 b2.x0)) (p := ⟨w1.heap.size, 1, none⟩) (by show _ ≤ w1.heap.size; omega) (.int .i64 b2.y0)) (p := ⟨w1.heap.size, 2, none⟩) (by show _ ≤ w1.heap.size; omega) (.int .i64 b2.x1)) (p := ⟨w1.heap.size, 3, none⟩) (by show _ ≤ w1.heap.size; omega) (.int .i64 b2.y1))
          obtain ⟨kcR, kfR, kaR, kgR, klR2⟩ := iR.rules
          go_wp2
          go_roundw
          case rel => exact ⟨k + 1, b2, by omega, by go_num, mL, mO, mR, HX', hB3⟩
          case measure => simp [intOf]; omega
        · have HE : Hid (bx = q) := by
            unfold Hid
            rw [← HX.out, ← Hq.out, List.take_of_length_le (by have := Hn.out; omega)]
            show foldR t (interR a.r a.r) = _
            rw [inter_self Hac.out]; rfl
          obtain rfl : bx = q := HE.out
          clear HX
          go_wp2_with fail
          refine (mmade_M bx (w.heap.size) g _ bx HC0 (fun x y w' _ _ _ _ hb => mul1_any x y _ _ n c a t w w' (bstep hb hbw) HR (by unfold Hid; have := Hn.out; simpa using this) hn2 hnc hcm HO HSZ HVV (jL.below hb) (g x y) (by unfold Hid; rw [Hg.out]))).mono ?_
          rintro e w4 ⟨v4, rfl, ho4, hb4⟩
          have kO4 := jO.below hb4
          have hB4 : Below w.heap.size w w4 := bstep hb4 hbw
          have ho := ho4.mono hbw.size
          clear kcR kfR kaR kgR
          obtain ⟨kc', kf', ka', kg', kl'⟩ := kO4.rules
          obtain ⟨A0, c0', hv0, _, _⟩ := ho.form encB_len
          generalize (pixL g bx).length = n0 at hv0
          subst hv0
          have o1 := ho.setFar kO4 (by decide) 0 (.int .i64 bx.x0)
          have m1 := kO4.set 0 (.int .i64 bx.x0)
          have o2 := o1.setFar m1 (by decide) 1 (.int .i64 bx.y0)
          have m2 := m1.set 1 (.int .i64 bx.y0)
          have o3 := o2.setFar m2 (by decide) 2 (.int .i64 bx.x1)
          have m3 := m2.set 2 (.int .i64 bx.x1)
          have o4 := o3.setFar m3 (by decide) 3 (.int .i64 bx.y1)
          have m4 := m3.set 3 (.int .i64 bx.y1)
          have o5 := o4.setFar m4 (by decide) 4 (.slice A0 n0 c0')
          clear o1 o2 o3 o4 m1 m2 m3 m4
          go_wp2
          refine bodyPost_ret (v := _) ?_ rfl ⟨_, rfl, o5, (by repeat (first | (with_reducible exact Below.refl _ _) | (with_reducible refine balloc ?_ _) | (with_reducible refine Below.drew ?_) | (with_reducible refine bdrewN ?_ _) | ((with_reducible refine bset ?_ ?_ _); rotate_left; focus (first | (with_reducible exact Nat.le_refl _) | (simp; done) | (simp; omega) | omega)) | (with_reducible refine bstep (by with_reducible assumption) ?_)))⟩
          simp [results, Try.results17, go_sem, kc']
end Go.Proofs.Ytndablijjkchjaa
