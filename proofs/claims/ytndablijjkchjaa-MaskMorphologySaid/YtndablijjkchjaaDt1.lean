/-
  The walk of relax.
-/
import Derived.Test.YtndablijjkchjaaDtQ
import Derived.Test.YtndablijjkchjaaMkClone
import Derived.Test.YtndablijjkchjaaPlB
namespace Go.Proofs.Ytndablijjkchjaa
open Go.RowKit
set_option linter.unusedSimpArgs false
set_option linter.unusedVariables false

set_option maxHeartbeats 3200000 in
theorem relax_any (wd ht g c n : Nat) (L : List Int) (x y dx dy : Int) (base : Nat) (w : World) (ho : OwnL encB 5 1 w base (.slice (some ⟨g, 0, none⟩) n c) L) (hn : L.length = n) (ha : wd * ht = n) (hwd : wd ≤ 8192) (hht : ht ≤ 8192) (hx : inG wd ht x y) (hd : -1 ≤ dx ∧ dx ≤ 1 ∧ -1 ≤ dy ∧ dy ≤ 1) (hb : bytesB L) (L' : List Int) (HL' : Hid (relP wd ht L x y dx dy = L')) :
    Calls Try.prog 73 #[.agg #[.int .i64 (wd : Int), .int .i64 (ht : Int), .slice (some ⟨g, 0, none⟩) n c], .int .i64 x, .int .i64 y, .int .i64 dx, .int .i64 dy] w fun e w' => e = .returned (.tuple #[]) ∧ OwnL encB 5 1 w' base (.slice (some ⟨g, 0, none⟩) n c) L' ∧ w.grownBy w' (some g) := by
  obtain ⟨d0, d1, d2, d3⟩ := hd
  have hgr : w.grownBy (w.alloc (.cells #[.int .i64 (wd : Int), .int .i64 (ht : Int), .slice (some ⟨g, 0, none⟩) n c] 70)) (some g) := gstep (grefl _ _) ((Below.refl _ _).alloc (Nat.le_refl _) _)
  have ho1 : OwnL encB 5 1 (w.alloc (.cells #[.int .i64 (wd : Int), .int .i64 (ht : Int), .slice (some ⟨g, 0, none⟩) n c] 70)) base (.slice (some ⟨g, 0, none⟩) n c) L := ho.alloc _
  by_cases hin : inG wd ht (x + dx) (y + dy)
  · have hk1 := gix_lt hin
    have hk2 := gix_lt hx
    have e1 := gix_cast hin
    have e2 := gix_cast hx
    have b1 : 0 ≤ (y + dy) * (wd : Int) := Int.mul_nonneg hin.2.2.1 (Int.natCast_nonneg wd)
    have b2 : 0 ≤ y * (wd : Int) := Int.mul_nonneg hx.2.2.1 (Int.natCast_nonneg wd)
    have hn2 : n ≤ 67108864 := by rw [← ha]; exact Nat.mul_le_mul hwd hht
    have hgat1 : gat wd L (x + dx) (y + dy) = L[gix wd (x + dx) (y + dy)]'(by omega) := by
      unfold gat; rw [List.getD_eq_getElem?_getD, List.getElem?_eq_getElem (by omega)]; rfl
    have hgat2 : gat wd L x y = L[gix wd x y]'(by omega) := by
      unfold gat; rw [List.getD_eq_getElem?_getD, List.getElem?_eq_getElem (by omega)]; rfl
    have hby1 := gat_byte (wd := wd) hb (x + dx) (y + dy)
    have hby2 := gat_byte (wd := wd) hb x y
    have hrel := HL'.out
    unfold relP at hrel
    obtain ⟨p, Hp⟩ : ∃ p, Hid (gat wd L (x + dx) (y + dy) = p) := ⟨_, rfl⟩
    obtain ⟨q, Hq⟩ : ∃ p, Hid (gat wd L x y = p) := ⟨_, rfl⟩
    rw [Hp.out] at hgat1 hby1 hrel
    rw [Hq.out] at hgat2 hby2 hrel
    have hgo1 : L[gix wd (x + dx) (y + dy)]? = some p := by rw [hgat1]; exact List.getElem?_eq_getElem _
    have hgo2 : L[gix wd x y]? = some q := by rw [hgat2]; exact List.getElem?_eq_getElem _
    clear hgat1 hgat2
    generalize gix wd (x + dx) (y + dy) = k1 at *
    generalize gix wd x y = k2 at *
    obtain ⟨hz1, hgat1⟩ := List.getElem?_eq_some_iff.1 hgo1
    obtain ⟨hz2, hgat2⟩ := List.getElem?_eq_some_iff.1 hgo2
    obtain ⟨g', cap, cur, hvv, hbg, kg0, hcap, hmx, hsz, htk⟩ := ho1.block (by intro h; rw [h] at hn; simp at hn; omega)
    have hvv' : (some (⟨g, 0, none⟩ : Addr)) = some ⟨g', 0, none⟩ := by injection hvv
    have hgg : g = g' := by injection hvv' with h; injection h
    subst hgg
    have ho2 : OwnL encB 5 1 (w.alloc (.cells #[.int .i64 (wd : Int), .int .i64 (ht : Int), .slice (some ⟨g, 0, none⟩) n c] 70)) base (.slice (some ⟨g, 0, none⟩) L.length c) L := by rw [hn]; exact ho1
    have hc1 := World.ownsRow.cellAt (g := g) ho2 (k1 * 1) (by omega)
    have hf1 := flat_at encB_len L k1 (by omega) 0 (.int .u8 p) (by rw [hgat1]; rfl)
    have hc2 := World.ownsRow.cellAt (g := g) ho2 (k2 * 1) (by omega)
    have hf2 := flat_at encB_len L k2 (by omega) 0 (.int .u8 q) (by rw [hgat2]; rfl)
    rw [Nat.add_zero] at hf1 hf2
    rw [hf1, Nat.mul_one] at hc1
    rw [hf2, Nat.mul_one] at hc2
    have hfz := kg0.rules.2.1 k2
    have hglt := kg0.lt
    obtain ⟨i0, i1, i2, i3⟩ := hin
    obtain ⟨j0, j1, j2, j3⟩ := hx
    have n0 : ¬ (x + dx < 0) := by omega
    have n1 : ¬ ((wd : Int) ≤ x + dx) := by omega
    have n2 : ¬ (y + dy < 0) := by omega
    have n3 : ¬ ((ht : Int) ≤ y + dy) := by omega
    have m0 : (0 : Int) ≤ (k1 : Int) := by omega
    have m1 : (k1 : Int) < (n : Int) := by omega
    have m2 : (0 : Int) ≤ (k2 : Int) := by omega
    have m3 : (k2 : Int) < (n : Int) := by omega
    have hHG : w.heap.size ≠ g := fun h => by
      have := (World.ownsRow.lt ho g rfl).2
      omega
    have f1 : (y + dy) * (wd : Int) + (x + dx) = (k1 : Int) := by omega
    have f2 : y * (wd : Int) + x = (k2 : Int) := by omega
    have HRL := Lib.hid hrel
    clear hrel htk hsz hvv hvv' hgat1 hgat2 hf1 hf2 e1 e2 ho2 hcap hmx kg0 ho hb
    have HO1 := Lib.hid ho1
    have HN := Lib.hid hn
    have HGR := Lib.hid hgr
    clear ho1 hn hgr ha
    by_cases h255 : p < 255
    · by_cases hpq : p + 1 < q
      · have hcnd : L.set k2 (p + 1) = L' := by
          have h := HRL.out
          rwa [if_pos ⟨⟨i0, i1, i2, i3⟩, h255, hpq⟩] at h
        have HS := Lib.hid hcnd
        clear hcnd HRL
        go_enter Try.func73, Try.ntmps73
        go_wp2
        go_end0
        have hm2 := OwnL.storeAt encB_len HO1.out (show k2 < L.length by have := HN.out; omega) 0 (.int .u8 (p + 1)) (p + 1) (by decide) rfl HN.out.symm
        rw [Nat.mul_one, Nat.add_zero, HS.out] at hm2
        exact ⟨rfl, hm2, gset HGR.out k2 _⟩
      · have hcnd : L = L' := by
          have h := HRL.out
          rwa [if_neg (fun hh => hpq hh.2.2)] at h
        subst hcnd
        clear HRL
        go_enter Try.func73, Try.ntmps73
        go_wp2
        go_end0
        exact ⟨rfl, HO1.out, HGR.out⟩
    · have hcnd : L = L' := by
        have h := HRL.out
        rwa [if_neg (fun hh => h255 hh.2.1)] at h
      subst hcnd
      clear HRL
      go_enter Try.func73, Try.ntmps73
      go_wp2
      go_end0
      exact ⟨rfl, HO1.out, HGR.out⟩
  · have hcnd : L = L' := by
      have h := HL'.out
      unfold relP at h
      rwa [if_neg (fun hh => hin hh.1)] at h
    subst hcnd
    have HO1 := Lib.hid ho1
    have HGR := Lib.hid hgr
    obtain ⟨j0, j1, j2, j3⟩ := hx
    clear HL' ho1 hgr ho hn hb ha
    by_cases n0 : x + dx < 0
    · clear hin
      go_enter Try.func73, Try.ntmps73
      go_wp2
      exact bodyPost_ret (results_none rfl _ _ _) rfl ⟨rfl, HO1.out, HGR.out⟩
    · by_cases n1 : (wd : Int) ≤ x + dx
      · clear hin
        go_enter Try.func73, Try.ntmps73
        go_wp2
        exact bodyPost_ret (results_none rfl _ _ _) rfl ⟨rfl, HO1.out, HGR.out⟩
      · by_cases n2 : y + dy < 0
        · clear hin
          go_enter Try.func73, Try.ntmps73
          go_wp2
          exact bodyPost_ret (results_none rfl _ _ _) rfl ⟨rfl, HO1.out, HGR.out⟩
        · have n3 : (ht : Int) ≤ y + dy := by
            apply Classical.byContradiction
            intro h
            exact hin ⟨by omega, by omega, by omega, by omega⟩
          clear hin
          go_enter Try.func73, Try.ntmps73
          go_wp2
          exact bodyPost_ret (results_none rfl _ _ _) rfl ⟨rfl, HO1.out, HGR.out⟩
end Go.Proofs.Ytndablijjkchjaa
