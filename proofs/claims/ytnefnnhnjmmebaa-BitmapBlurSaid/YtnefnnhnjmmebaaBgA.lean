/-
  Texts put together: Big1, Big2, Big3, Big4, Big5, Big7, Big6, Big8, Big9, Big10, Big11.
-/
import Derived.Test.YtnefnnhnjmmebaaBigP
import Derived.Test.YtnefnnhnjmmebaaPlB
import Derived.Test.YtnefnnhnjmmebaaGo
import Derived.Test.YtnefnnhnjmmebaaRows
import Derived.OwnWalk
import Derived.IntWalk
import Derived.Test.YtnefnnhnjmmebaaPlA
namespace Go.Proofs.Ytnefnnhnjmmebaa
open Go.RowKit
set_option linter.unusedSimpArgs false
set_option linter.unusedVariables false

def encD (x : Nat) : List Value := [.int .u32 (x : Int)]
theorem encD_len (x : Nat) : (encD x).length = 1 := rfl
theorem encD_one (x : Nat) : ∀ u ∈ encD x, u.oneCell' = true := by intro u hu; simp [encD] at hu; subst hu; rfl
theorem Try.infoU32 : (Try.prog.info? 157).map (fun i => (i.zero, i.size, i.bytes)) = some (some (.int .u32 0), 1, 4) := by kernel_rfl
/-- A slice of digits among the arguments. -/
structure Dg where
  A : Option Addr
  n : Nat
  c : Nat
  l : List Nat
structure Dg.ok (d : Dg) (w : World) : Prop where
  rd : RdL encD 1 w d.A d.l
  ln : d.l.length = d.n
  dg : okD d.l
theorem Dg.ok.below {d : Dg} {w w' : World} (h : d.ok w) (hb : Below w.heap.size w w') : d.ok w' := ⟨h.rd.below hb, h.ln, h.dg⟩
theorem Dg.ok.drew {d : Dg} {w : World} (h : d.ok w) : d.ok w.drew := ⟨h.rd.drew, h.ln, h.dg⟩
/-- The cell of a digit. -/
theorem rdD {w : World} {A : Option Addr} {l : List Nat} (h : RdL encD 1 w A l) {k : Nat} (hk : k < l.length) : ∃ g o, A = some ⟨g, o, none⟩ ∧ g < w.heap.size ∧ w.cell? ⟨g, o + k, none⟩ = some (.int .u32 (l.getD k 0 : Nat)) := by
  obtain ⟨g, o, hA, hg, hc⟩ := h (by intro e; rw [e] at hk; simp at hk)
  refine ⟨g, o, hA, hg, ?_⟩
  have := hc k hk 0 (.int .u32 (l[k] : Nat)) rfl
  rw [Nat.mul_one, Nat.add_zero] at this
  rw [this, List.getD_eq_getElem?_getD, List.getElem?_eq_getElem hk]; rfl
/-- What a call hands back: the digits of n. -/
def RetD (n : Nat) (w : World) (e : Ending) (w' : World) : Prop := ∃ d : Dg, e = .returned (.slice d.A d.n d.c) ∧ d.ok w' ∧ d.l = dig n ∧ Below w.heap.size w w'
/-- A slice that the call owns is one that may be handed on. -/
theorem dg_of_own {w : World} {base : Nat} {v : Value} {l : List Nat} (h : OwnL encD 157 1 w base v l) (hd : okD l) : ∃ d : Dg, v = .slice d.A d.n d.c ∧ d.ok w ∧ d.l = l := by
  obtain ⟨A, c, hv, hr, _⟩ := h.form encD_len
  exact ⟨⟨A, l.length, c, l⟩, hv, ⟨hr, rfl, hd⟩, rfl⟩
/-- d's memory lies from block b on. -/
def Frs (b : Nat) (d : Dg) : Prop := ∀ g o, d.A = some ⟨g, o, none⟩ → b ≤ g
theorem Frs.mono {a b : Nat} {d : Dg} (h : Frs b d) (hab : a ≤ b) : Frs a d := fun g o e => Nat.le_trans hab (h g o e)
/-- What a call hands back in new memory: the digits of n. -/
def RetF (n : Nat) (w : World) (e : Ending) (w' : World) : Prop := ∃ d : Dg, e = .returned (.slice d.A d.n d.c) ∧ d.ok w' ∧ d.l = dig n ∧ Frs w.heap.size d ∧ Below w.heap.size w w'
theorem dg_of_own2 {w : World} {base : Nat} {v : Value} {l : List Nat} (h : OwnL encD 157 1 w base v l) (hd : okD l) : ∃ d : Dg, v = .slice d.A d.n d.c ∧ d.ok w ∧ d.l = l ∧ Frs base d := by
  obtain ⟨A, c, hv, hr, _⟩ := h.form encD_len
  refine ⟨⟨A, l.length, c, l⟩, hv, ⟨hr, rfl, hd⟩, rfl, fun g o e => ?_⟩
  have e : A = some ⟨g, o, none⟩ := e
  rw [hv, e] at h
  exact (World.ownsRow.lt h g rfl).1
theorem RdL.far {α : Type} {enc : α → List Value} {size : Nat} {w : World} {A : Option Addr} {l : List α} (h : RdL enc size w A l) {p : Addr} (hp : ∀ g o, A = some ⟨g, o, none⟩ → g ≠ p.block) (u : Value) : RdL enc size (w.setCell p u) A l := fun hn => by
  obtain ⟨g, o, he, hlt, hc⟩ := h hn
  refine ⟨g, o, he, by simpa [World.setCell] using hlt, fun i hi j u' hu => ?_⟩
  exact (World.cell?_of_block (a := ⟨g, o + i * size + j, none⟩) (Below.heap_setCell w p u g (hp g o he))).trans (hc i hi j u' hu)
theorem dig_len_le : ∀ (k n : Nat), n < 4294967296 ^ k → (dig n).length ≤ k
  | 0, n, h => by
    have : n = 0 := by simpa using h
    subst this; rw [dig_zero]; exact Nat.le_refl _
  | k + 1, n, h => by
    by_cases h0 : n = 0
    · subst h0; rw [dig_zero]; simp
    · rw [dig_pos h0, List.length_cons]
      have := dig_len_le k (n / 4294967296) (by rw [Nat.div_lt_iff_lt_mul (by decide)]; rw [Nat.pow_succ] at h; exact h)
      omega
/-- The length of what is handed back. -/
theorem Dg.ok.le {d : Dg} {w : World} (h : d.ok w) {n : Nat} (e : d.l = dig n) {k : Nat} (hn : n < 4294967296 ^ k) : d.n ≤ k := by
  rw [← h.ln, e]; exact dig_len_le k n hn
theorem dig_val_len {l : List Nat} (h : okD l) : (dig (valD l)).length ≤ l.length := dig_len_le _ _ (val_lt h)
/-- The last of a number's digits is not 0. -/
theorem dig_top {n : Nat} (h : n ≠ 0) : dig n ≠ [] ∧ (dig n).getD ((dig n).length - 1) 0 ≠ 0 := by
  induction n using Nat.strongRecOn with
  | ind n ih =>
    rw [dig_pos h]
    refine ⟨by simp, ?_⟩
    by_cases h2 : n / 4294967296 = 0
    · rw [h2, dig_zero]; simp; omega
    · obtain ⟨hn, ht⟩ := ih (n / 4294967296) (by omega) h2
      have hl : 0 < (dig (n / 4294967296)).length := List.length_pos_iff.2 hn
      rw [List.length_cons, Nat.add_sub_cancel]
      rw [show (dig (n / 4294967296)).length = (dig (n / 4294967296)).length - 1 + 1 by omega, List.getD_cons_succ]
      exact ht
end Go.Proofs.Ytnefnnhnjmmebaa

namespace Go.Proofs.Ytnefnnhnjmmebaa
open Go.RowKit
set_option linter.unusedSimpArgs false
set_option linter.unusedVariables false

set_option maxHeartbeats 3200000 in
theorem norm_f (d : Dg) (w : World) (hd : d.ok w) (hs : d.n ≤ 4000) :
    Calls Try.prog 147 #[.slice d.A d.n d.c] w (RetF (valD d.l) w) := by
  have HD := Lib.hid hd
  have HLN := Lib.hid hd.ln
  clear hd
  go_enter Try.func147, Try.ntmps147
  go_wp2_with fail
  go_loopw [3] (fun i wr => ∃ k : Nat, k ≤ d.n ∧ i = .int .i64 k ∧ Hid (∀ j, k ≤ j → d.l.getD j 0 = 0) ∧ Hid (w = wr)) (fun i _ => (intOf i).toNat)
  case atStart => exact ⟨d.n, Nat.le_refl _, rfl, fun j hj => by rw [List.getD_eq_getElem?_getD, List.getElem?_eq_none (by have := HLN.out; omega)]; rfl, rfl⟩
  case round =>
    obtain ⟨k, hk, rfl, HZ, hw⟩ := hrel
    obtain rfl := hw.out
    clear hw
    have hcase : (∃ m, k = m + 1 ∧ Hid (d.l.getD m 0 = 0)) ∨ ((k = 0 ∨ ∃ m, k = m + 1 ∧ ∃ x, Hid (d.l.getD m 0 = x) ∧ x ≠ 0) ∧ Hid (dig (valD d.l) = d.l.take k)) := by
      rcases Nat.eq_zero_or_pos k with h | h
      · exact .inr ⟨.inl h, dig_take HD.out.dg (by have := HLN.out; omega) HZ.out (.inl h)⟩
      · by_cases h2 : d.l.getD (k - 1) 0 = 0
        · exact .inl ⟨k - 1, by omega, h2⟩
        · exact .inr ⟨.inr ⟨k - 1, by omega, _, rfl, h2⟩, dig_take HD.out.dg (by have := HLN.out; omega) HZ.out (.inr h2)⟩
    rcases hcase with ⟨m, rfl, hm⟩ | ⟨hcase, HE⟩
    · obtain ⟨g, o, hA, hg, hc⟩ := rdD (HD.out.rd) (show m < d.l.length by have := HLN.out; omega)
      rw [hm.out] at hc
      have i0 : (0 : Int) ≤ (m : Int) := by omega
      have i1 : (m : Int) < (d.n : Int) := by omega
      have e1 : ((m + 1 : Nat) : Int) = (m : Int) + 1 := by omega
      rw [e1]
      clear e1
      have HA := Lib.hid hA
      rw [HA.out]
      clear hA
      have HZ2 : Hid (∀ j, m ≤ j → d.l.getD j 0 = 0) := fun j hj => by
        rcases Nat.eq_or_lt_of_le hj with h | h
        · subst h; exact hm.out
        · exact HZ.out j h
      go_wp2
      go_roundw
      case rel => exact ⟨m, by omega, by go_num, HZ2, by first | trivial | exact rfl⟩
      case measure => first | (simp [intOf]; done) | (simp [intOf]; omega)
    · have hkl : k ≤ d.l.length := by have := HLN.out; omega
      clear HZ
      obtain ⟨A, HA⟩ : ∃ A, Hid (d.A = A) := ⟨_, rfl⟩
      have hrd := HD.out.rd
      rw [HA.out] at hrd ⊢
      have HRD := Lib.hid hrd
      clear hrd
      rcases hcase with rfl | ⟨m, rfl, x, hx, hx0⟩
      · skip
        go_wp2_with fail
        have kO : Bk (w.alloc (.cells #[] 157)) w.heap.size 157 #[] := Bk.new _ _ _ rfl
        go_loopw [4, 5] (fun u i wr => ∃ k : Nat, k ≤ 0 ∧ i = .int .i64 k ∧ OwnL encD 157 1 wr w.heap.size u (d.l.take k) ∧ Below w.heap.size w wr) (fun _ i _ => 0 - (intOf i).toNat)
        case atStart => exact ⟨0, Nat.zero_le _, rfl, OwnL.lit (l := []) encD_len kO (by omega) (by decide) rfl, (by repeat (first | (with_reducible exact Below.refl _ _) | (with_reducible refine balloc ?_ _) | (with_reducible refine Below.drew ?_) | (with_reducible refine bdrewN ?_ _) | ((with_reducible refine bset ?_ ?_ _); rotate_left; focus (first | (with_reducible exact Nat.le_refl _) | (simp; done) | (simp; omega) | omega)) | (with_reducible refine bstep (by with_reducible assumption) ?_)))⟩
        case round =>
          obtain ⟨k, hk2, rfl, hu, hbw⟩ := hrel
          by_cases hlt : k < 0
          · exact absurd hlt (Nat.not_lt_zero _)
          · obtain rfl : k = 0 := by omega
            have j2 : ¬ ((0 : Int) < 0) := by omega
            rw [← HE.out] at hu
            obtain ⟨dd, hdv, hdo, hdl, hdf⟩ := dg_of_own2 hu (dig_ok _)
            go_wp2
            go_ret
            exact ⟨dd, by first | rfl | rw [hdv], hdo, hdl, hdf, hbw⟩
      · obtain ⟨g, o, rfl, hg, hc⟩ := rdD HRD.out (show m < d.l.length by omega)
        rw [hx.out] at hc
        have i0 : (0 : Int) ≤ (m : Int) := by omega
        have i1 : (m : Int) < (d.n : Int) := by omega
        have i2 : ((x : Int) == 0) = false := by simp; omega
        have e1 : ((m + 1 : Nat) : Int) = (m : Int) + 1 := by omega
        rw [e1]
        clear e1
        go_wp2_with fail
        have kO : Bk (w.alloc (.cells #[] 157)) w.heap.size 157 #[] := Bk.new _ _ _ rfl
        go_loopw [4, 5] (fun u i wr => ∃ k : Nat, k ≤ (m + 1) ∧ i = .int .i64 k ∧ OwnL encD 157 1 wr w.heap.size u (d.l.take k) ∧ Below w.heap.size w wr) (fun _ i _ => (m + 1) - (intOf i).toNat)
        case atStart => exact ⟨0, Nat.zero_le _, rfl, OwnL.lit (l := []) encD_len kO (by omega) (by decide) rfl, (by repeat (first | (with_reducible exact Below.refl _ _) | (with_reducible refine balloc ?_ _) | (with_reducible refine Below.drew ?_) | (with_reducible refine bdrewN ?_ _) | ((with_reducible refine bset ?_ ?_ _); rotate_left; focus (first | (with_reducible exact Nat.le_refl _) | (simp; done) | (simp; omega) | omega)) | (with_reducible refine bstep (by with_reducible assumption) ?_)))⟩
        case round =>
          obtain ⟨k, hk2, rfl, hu, hbw⟩ := hrel
          by_cases hlt : k < (m + 1)
          · have hkl2 : k < d.l.length := by omega
            obtain ⟨g2, o2, hA2, hg2, hc2⟩ := rdD (HRD.out.below hbw) hkl2
            injection hA2 with hA2; injection hA2 with hA3 hA4 hA5; clear hA5; subst hA3 hA4
            obtain ⟨y, Hy⟩ : ∃ y, Hid (d.l.getD k 0 = y) := ⟨_, rfl⟩
            rw [Hy.out] at hc2
            have j0 : (0 : Int) ≤ (k : Int) := by omega
            have j1 : (k : Int) < (d.n : Int) := by omega
            have j2 : (k : Int) < ((m : Int) + 1) := by omega
            have hlen : (d.l.take k).length ≤ 4294967296 := by rw [List.length_take]; omega
            have hsz := hbw.size
            have HT : Hid (d.l.take k ++ [y] = d.l.take (k + 1)) := by
              unfold Hid
              rw [List.take_succ_eq_append_getElem hkl2, ← Hy.out, List.getD_eq_getElem?_getD, List.getElem?_eq_getElem hkl2]; rfl
            go_wp2_with (at_builtin; refine wpList_append_one encD_len encD_one 141 Try.infoU32 rfl (by decide) (by decide) Try.underlying141 rfl _ _ rfl w.heap.size _ _ rfl (hu.alloc _) wr.heap.size (y) rfl (Bk.new _ _ _ rfl) (by first | rfl | (simp [encD]; done) | (simp [encD]; omega)) hlen (by simp at hsz ⊢; omega) ?_; intro v5 w5 ho5 hg5 hv5)
            rw [HT.out] at ho5
            have hB5 := below_grown (hu.alloc (.cells #[.int .u32 (y : Int)] 157)) hg5 (balloc hbw (.cells #[.int .u32 (y : Int)] 157)) (by first | exact Nat.le_refl _ | omega)
            clear hu hg5 HT hc2
            go_wp2
            go_roundw
            case rel => exact ⟨k + 1, by omega, by go_num, ho5, hB5⟩
            case measure => first | (simp [intOf]; done) | (simp [intOf]; omega)
          · obtain rfl : k = (m + 1) := by omega
            have j2 : ¬ ((((m : Int) + 1) : Int) < ((m : Int) + 1)) := by omega
            rw [← HE.out] at hu
            obtain ⟨dd, hdv, hdo, hdl, hdf⟩ := dg_of_own2 hu (dig_ok _)
            go_wp2
            go_ret
            exact ⟨dd, by first | rfl | rw [hdv], hdo, hdl, hdf, hbw⟩
theorem norm_any (d : Dg) (w : World) (hd : d.ok w) (hs : d.n ≤ 4000) :
    Calls Try.prog 147 #[.slice d.A d.n d.c] w (RetD (valD d.l) w) := by
  refine (norm_f d w hd hs).mono ?_
  rintro e w' ⟨d6, he, ho, hl, _, hb⟩
  exact ⟨d6, he, ho, hl, hb⟩
set_option maxHeartbeats 1600000 in
theorem digit_any (d : Dg) (i : Nat) (w : World) (hd : d.ok w) (x : Nat) (Hx : Hid (d.l.getD i 0 = x)) :
    Calls Try.prog 151 #[.slice d.A d.n d.c, .int .i64 (i : Int)] w fun e w' => e = .returned (.int .u64 (x : Int)) ∧ w = w' := by
  have HD := Lib.hid hd
  have HLN := Lib.hid hd.ln
  clear hd
  by_cases hi : i < d.n
  · obtain ⟨g, o, hA, hg, hc⟩ := rdD (HD.out.rd) (show i < d.l.length by have := HLN.out; omega)
    rw [Hx.out] at hc
    have hx : x < 4294967296 := by rw [← Hx.out]; exact okD_get HD.out.dg i
    have i0 : (0 : Int) ≤ (i : Int) := by omega
    have i1 : (i : Int) < (d.n : Int) := by omega
    have i2 : ¬ ((i : Int) < 0) := by omega
    have i3 : ¬ ((d.n : Int) ≤ (i : Int)) := by omega
    have HA := Lib.hid hA
    rw [HA.out]
    clear hA
    go_enter Try.func151, Try.ntmps151
    go_wp2
    go_ret
    exact ⟨rfl, rfl⟩
  · have hx : x = 0 := by rw [← Hx.out, List.getD_eq_getElem?_getD, List.getElem?_eq_none (by have := HLN.out; omega)]; rfl
    subst hx
    have i2 : ¬ ((i : Int) < 0) := by omega
    have i3 : (d.n : Int) ≤ (i : Int) := by omega
    go_enter Try.func151, Try.ntmps151
    go_wp2
    go_ret
    exact ⟨rfl, rfl⟩
set_option maxHeartbeats 3200000 in
theorem cmp_any (a b : Dg) (w : World) (ha : a.ok w) (hb : b.ok w) (hna : a.n ≤ 4000) (hnb : b.n ≤ 4000) (v : Int) (Hv : Hid (cmpP (valD a.l) (valD b.l) = v)) :
    Calls Try.prog 154 #[.slice a.A a.n a.c, .slice b.A b.n b.c] w fun e w' => e = .returned (.int .i64 v) ∧ w = w' := by
  have HA := Lib.hid ha
  have HB := Lib.hid hb
  have HLA := Lib.hid ha.ln
  have HLB := Lib.hid hb.ln
  clear ha hb
  obtain ⟨M, hM⟩ : ∃ M, max a.n b.n = M := ⟨_, rfl⟩
  have hM4 : M ≤ 4000 := by omega
  have hM2 : (if a.n < b.n then (b.n : Int) else (a.n : Int)) = (M : Int) := by split <;> omega
  go_enter Try.func154, Try.ntmps154
  go_wp2_with fail
  go_loopw [5] (fun i wr => ∃ k : Nat, k ≤ M ∧ i = .int .i64 ((k : Int) - 1) ∧ Hid (∀ j, k ≤ j → a.l.getD j 0 = b.l.getD j 0) ∧ Hid (w = wr)) (fun i _ => ((intOf i) + 1).toNat)
  case atStart =>
    have HZ2 : Hid (∀ j, M ≤ j → a.l.getD j 0 = b.l.getD j 0) := fun j hj => by
      rw [List.getD_eq_getElem?_getD, List.getD_eq_getElem?_getD, List.getElem?_eq_none (by have := HLA.out; omega), List.getElem?_eq_none (by have := HLB.out; omega)]
    exact ⟨M, Nat.le_refl _, rfl, HZ2, by first | trivial | exact rfl⟩
  case round =>
    obtain ⟨k, hk, rfl, HZ, hw⟩ := hrel
    obtain rfl := hw.out
    clear hw
    rcases Nat.eq_zero_or_pos k with h0 | h0
    · subst h0
      obtain rfl : v = 0 := by
        rw [← Hv.out, cmpP, cmp_eq (a := a.l) (b := b.l) (m := M) (by have := HLA.out; have := HLB.out; omega) (fun j => HZ.out j (Nat.zero_le _)), if_neg (Nat.lt_irrefl _), if_neg (Nat.lt_irrefl _)]
      go_wp2
      go_ret
      exact ⟨rfl, rfl⟩
    · obtain ⟨m, rfl⟩ : ∃ m, k = m + 1 := ⟨k - 1, by omega⟩
      have e1 : ((m + 1 : Nat) : Int) - 1 = (m : Int) := by omega
      rw [e1]
      clear e1
      have i0 : (0 : Int) ≤ (m : Int) := by omega
      have hmM : m < M := hk
      have hm4 : (m : Int) < 4000 := by omega
      obtain ⟨x, Hx⟩ : ∃ x, Hid (a.l.getD m 0 = x) := ⟨_, rfl⟩
      obtain ⟨y, Hy⟩ : ∃ x, Hid (b.l.getD m 0 = x) := ⟨_, rfl⟩
      have hlm : a.l.length ≤ M ∧ b.l.length ≤ M := by have := HLA.out; have := HLB.out; omega
      rcases Nat.lt_trichotomy x y with hxy | hxy | hxy
      · have hlt := cmp_lt HA.out.dg HB.out.dg (m := M) (k := m) (by omega) hlm (fun j hj => HZ.out j hj) (by rw [Hx.out, Hy.out]; exact hxy)
        obtain rfl : v = -1 := by rw [← Hv.out, cmpP, if_pos hlt]
        clear hlt hlm
        go_wp2_with fail
        refine (digit_any a m _ HA.out x Hx).mono ?_
        rintro e w' ⟨rfl, rfl⟩
        go_wp2_with fail
        refine (digit_any b m _ HB.out y Hy).mono ?_
        rintro e w' ⟨rfl, rfl⟩
        go_wp2
        go_ret
        exact ⟨rfl, rfl⟩
      · subst hxy
        clear hlm
        go_wp2_with fail
        refine (digit_any a m _ HA.out x Hx).mono ?_
        rintro e w' ⟨rfl, rfl⟩
        go_wp2_with fail
        refine (digit_any b m _ HB.out x Hy).mono ?_
        rintro e w' ⟨rfl, rfl⟩
        go_wp2_with fail
        refine (digit_any a m _ HA.out x Hx).mono ?_
        rintro e w' ⟨rfl, rfl⟩
        go_wp2_with fail
        refine (digit_any b m _ HB.out x Hy).mono ?_
        rintro e w' ⟨rfl, rfl⟩
        have HZ2 : Hid (∀ j, m ≤ j → a.l.getD j 0 = b.l.getD j 0) := fun j hj => by
          rcases Nat.eq_or_lt_of_le hj with h | h
          · subst h; rw [Hx.out, Hy.out]
          · exact HZ.out j h
        go_wp2
        go_roundw
        case rel => exact ⟨m, by omega, by go_num, HZ2, by first | trivial | exact rfl⟩
        case measure => first | (simp [intOf]; done) | (simp [intOf]; omega)
      · have hlt := cmp_lt HB.out.dg HA.out.dg (m := M) (k := m) (by omega) hlm.symm (fun j hj => (HZ.out j hj).symm) (by rw [Hx.out, Hy.out]; exact hxy)
        obtain rfl : v = 1 := by rw [← Hv.out, cmpP, if_neg (Nat.not_lt.2 (Nat.le_of_lt hlt)), if_pos hlt]
        have i2 : ¬ (x < y) := by omega
        clear hlt hlm
        go_wp2_with fail
        refine (digit_any a m _ HA.out x Hx).mono ?_
        rintro e w' ⟨rfl, rfl⟩
        go_wp2_with fail
        refine (digit_any b m _ HB.out y Hy).mono ?_
        rintro e w' ⟨rfl, rfl⟩
        go_wp2_with fail
        refine (digit_any a m _ HA.out x Hx).mono ?_
        rintro e w' ⟨rfl, rfl⟩
        go_wp2_with fail
        refine (digit_any b m _ HB.out y Hy).mono ?_
        rintro e w' ⟨rfl, rfl⟩
        go_wp2
        go_ret
        exact ⟨rfl, rfl⟩
end Go.Proofs.Ytnefnnhnjmmebaa

namespace Go.Proofs.Ytnefnnhnjmmebaa
open Go.RowKit
set_option linter.unusedSimpArgs false
set_option linter.unusedVariables false

set_option maxHeartbeats 3200000 in
theorem add_any (a b : Dg) (w : World) (ha : a.ok w) (hb : b.ok w) (hna : a.n ≤ 2000) (hnb : b.n ≤ 2000) :
    Calls Try.prog 143 #[.slice a.A a.n a.c, .slice b.A b.n b.c] w (RetD (valD a.l + valD b.l) w) := by
  have HA := Lib.hid ha
  have HB := Lib.hid hb
  have HLA := Lib.hid ha.ln
  have HLB := Lib.hid hb.ln
  clear ha hb
  obtain ⟨M, hM⟩ : ∃ M, max a.n b.n = M := ⟨_, rfl⟩
  have hM4 : M ≤ 2000 := by omega
  have hM2 : (if a.n < b.n then (b.n : Int) else (a.n : Int)) = (M : Int) := by split <;> omega
  go_enter Try.func143, Try.ntmps143
  go_wp2_with fail
  have kO : Bk (w.alloc (.cells #[] 157)) w.heap.size 157 #[] := Bk.new _ _ _ rfl
  go_loopw [5, 6, 7] (fun u c i wr => ∃ k : Nat, k ≤ M ∧ i = .int .i64 k ∧ c = .int .u64 ((addS a.l b.l k).2 : Nat) ∧ OwnL encD 157 1 wr w.heap.size u (addS a.l b.l k).1 ∧ Below w.heap.size w wr) (fun _ _ i _ => M - (intOf i).toNat)
  case atStart => exact ⟨0, Nat.zero_le _, rfl, rfl, OwnL.lit (l := []) encD_len kO (by omega) (by decide) rfl, (by repeat (first | (with_reducible exact Below.refl _ _) | (with_reducible refine balloc ?_ _) | (with_reducible refine Below.drew ?_) | (with_reducible refine bdrewN ?_ _) | ((with_reducible refine bset ?_ ?_ _); rotate_left; focus (first | (with_reducible exact Nat.le_refl _) | (simp; done) | (simp; omega) | omega)) | (with_reducible refine bstep (by with_reducible assumption) ?_)))⟩
  case round =>
    obtain ⟨k, hk, rfl, rfl, hu, hbw⟩ := hrel
    obtain ⟨s1, s2, s3, s4⟩ := addS_spec HA.out.dg HB.out.dg k
    have hsz := hbw.size
    have hk4 : k ≤ 4000 := by omega
    have hlen : (addS a.l b.l k).1.length ≤ 4294967296 := by rw [s1]; omega
    have HT0 : Hid ((addS a.l b.l (k + 1)) = ((addS a.l b.l k).1 ++ [(a.l.getD k 0 + b.l.getD k 0 + (addS a.l b.l k).2) % 4294967296], (a.l.getD k 0 + b.l.getD k 0 + (addS a.l b.l k).2) / 4294967296)) := by unfold Hid; rfl
    have HS1 := Lib.hid s1
    have HS2 := Lib.hid s2
    have HS3 := Lib.hid s3
    clear s1 s2 s3 s4
    by_cases hlt : k < M
    · have hsz2 := hbw.size
      obtain ⟨x, Hx⟩ : ∃ x, Hid (a.l.getD k 0 = x) := ⟨_, rfl⟩
      obtain ⟨y, Hy⟩ : ∃ x, Hid (b.l.getD k 0 = x) := ⟨_, rfl⟩
      have hx : x < 4294967296 := by rw [← Hx.out]; exact okD_get HA.out.dg k
      have hy : y < 4294967296 := by rw [← Hy.out]; exact okD_get HB.out.dg k
      rw [Hx.out, Hy.out] at HT0
      obtain ⟨c0, hc0⟩ : ∃ c, (addS a.l b.l k).2 = c := ⟨_, rfl⟩
      obtain ⟨L, hL⟩ : ∃ L, (addS a.l b.l k).1 = L := ⟨_, rfl⟩
      have hcb := HS3.out
      rw [hc0, hL] at HT0
      rw [hc0] at hcb ⊢
      rw [hL] at hlen hu
      clear hL hc0 HS1 HS2 HS3
      go_wp2_with fail
      refine (digit_any a k _ (HA.out.below hbw) x Hx).mono ?_
      rintro e w' ⟨rfl, rfl⟩
      go_wp2_with fail
      refine (digit_any b k _ (HB.out.below hbw) y Hy).mono ?_
      rintro e w' ⟨rfl, rfl⟩
      go_wp2_with (at_builtin; refine wpList_append_one encD_len encD_one 141 Try.infoU32 rfl (by decide) (by decide) Try.underlying141 rfl _ _ rfl w.heap.size _ _ rfl (hu.alloc _) wr.heap.size ((x + y + c0) % 4294967296) rfl (Bk.new _ _ _ rfl) (by first | rfl | (simp [encD]; done) | (simp [encD]; omega)) hlen (by simp at hsz ⊢; omega) ?_; intro v5 w5 ho5 hg5 hv5)
      rw [show L ++ [(x + y + c0) % 4294967296] = (addS a.l b.l (k + 1)).1 by rw [HT0.out]] at ho5
      have HC : Hid ((((x + y + c0) / 4294967296) : Nat) = (addS a.l b.l (k + 1)).2) := by unfold Hid; rw [HT0.out]
      have hB5 := below_grown (hu.alloc _) hg5 (balloc hbw _) (by first | exact Nat.le_refl _ | omega)
      clear hu hg5 HT0
      go_wp2
      go_roundw
      case rel => exact ⟨k + 1, by omega, by go_num, by rw [← HC.out]; first | rfl | (congr 1; omega) | (congr 1; simp; omega), ho5, hB5⟩
      case measure => first | (simp [intOf]; done) | (simp [intOf]; omega)
    · have hkB : k = M := by omega
      obtain ⟨c0, hc0⟩ : ∃ c, (addS a.l b.l k).2 = c := ⟨_, rfl⟩
      obtain ⟨L, hL⟩ : ∃ L, (addS a.l b.l k).1 = L := ⟨_, rfl⟩
      obtain ⟨hok, hval⟩ := addS_all HA.out.dg HB.out.dg (k := k) (by have := HLA.out; have := HLB.out; omega)
      have hll := HS1.out
      have hcb := HS3.out
      rw [hc0, hL] at hok hval
      rw [hc0] at hcb ⊢
      rw [hL] at hlen hu hll
      clear hL hc0 HS1 HS2 HS3 HT0
      have HOK := Lib.hid hok
      have HVAL := Lib.hid hval
      clear hok hval
      skip
      go_wp2_with (at_builtin; refine wpList_append_one encD_len encD_one 141 Try.infoU32 rfl (by decide) (by decide) Try.underlying141 rfl _ _ rfl w.heap.size _ _ rfl (hu.alloc _) wr.heap.size (c0) rfl (Bk.new _ _ _ rfl) (by first | rfl | (simp [encD]; done) | (simp [encD]; omega)) hlen (by simp at hsz ⊢; omega) ?_; intro v5 w5 ho5 hg5 hv5)
      have hB5 := below_grown (hu.alloc _) hg5 (balloc hbw _) (by first | exact Nat.le_refl _ | omega)
      obtain ⟨dd, hdv, hdo, hdl⟩ := dg_of_own ho5 HOK.out
      have hdn : dd.n ≤ 4000 := by rw [← hdo.ln, hdl, List.length_append, hll]; simp; omega
      rw [← hdl] at HVAL
      have HDO := Lib.hid hdo
      clear hg5 hu ho5 hdo hdl
      subst hdv
      go_wp2_with fail
      refine (norm_any dd _ HDO.out hdn).mono ?_
      rintro e w6 ⟨d6, rfl, ho6, hl6, hb6⟩
      have HO6 := Lib.hid ho6
      have HL6 := Lib.hid hl6
      clear ho6 hl6
      go_wp2
      go_ret
      exact ⟨d6, rfl, HO6.out, by rw [HL6.out, HVAL.out], bstep hb6 hB5⟩
set_option maxHeartbeats 3200000 in
theorem times_any (a : Dg) (d : Nat) (w : World) (ha : a.ok w) (hna : a.n ≤ 2000) (hd : d < 4294967296) :
    Calls Try.prog 153 #[.slice a.A a.n a.c, .int .u64 (d : Int)] w (RetD (valD a.l * d) w) := by
  have HA := Lib.hid ha
  have HLA := Lib.hid ha.ln
  clear ha
  go_enter Try.func153, Try.ntmps153
  go_wp2_with fail
  have kO : Bk (w.alloc (.cells #[] 157)) w.heap.size 157 #[] := Bk.new _ _ _ rfl
  go_loopw [5, 6, 7] (fun u c i wr => ∃ k : Nat, k ≤ a.n ∧ i = .int .i64 k ∧ c = .int .u64 ((timesS a.l d k).2 : Nat) ∧ OwnL encD 157 1 wr w.heap.size u (timesS a.l d k).1 ∧ Below w.heap.size w wr) (fun _ _ i _ => a.n - (intOf i).toNat)
  case atStart => exact ⟨0, Nat.zero_le _, rfl, rfl, OwnL.lit (l := []) encD_len kO (by omega) (by decide) rfl, (by repeat (first | (with_reducible exact Below.refl _ _) | (with_reducible refine balloc ?_ _) | (with_reducible refine Below.drew ?_) | (with_reducible refine bdrewN ?_ _) | ((with_reducible refine bset ?_ ?_ _); rotate_left; focus (first | (with_reducible exact Nat.le_refl _) | (simp; done) | (simp; omega) | omega)) | (with_reducible refine bstep (by with_reducible assumption) ?_)))⟩
  case round =>
    obtain ⟨k, hk, rfl, rfl, hu, hbw⟩ := hrel
    obtain ⟨s1, s2, s3, s4⟩ := timesS_spec HA.out.dg hd k
    have hsz := hbw.size
    have hk4 : k ≤ 4000 := by omega
    have hlen : (timesS a.l d k).1.length ≤ 4294967296 := by rw [s1]; omega
    have HT0 : Hid ((timesS a.l d (k + 1)) = ((timesS a.l d k).1 ++ [(a.l.getD k 0 * d + (timesS a.l d k).2) % 4294967296], (a.l.getD k 0 * d + (timesS a.l d k).2) / 4294967296)) := by unfold Hid; rfl
    have HS1 := Lib.hid s1
    have HS2 := Lib.hid s2
    have HS3 := Lib.hid s3
    clear s1 s2 s3 s4
    by_cases hlt : k < a.n
    · have hsz2 := hbw.size
      obtain ⟨x, Hx⟩ : ∃ x, Hid (a.l.getD k 0 = x) := ⟨_, rfl⟩
      have hx : x < 4294967296 := by rw [← Hx.out]; exact okD_get HA.out.dg k
      obtain ⟨g, o, hA, hg, hc⟩ := rdD (HA.out.below hbw).rd (show k < a.l.length by have := HLA.out; omega)
      rw [Hx.out] at HT0 hc
      have i0 : (0 : Int) ≤ (k : Int) := by omega
      have i1 : (k : Int) < (a.n : Int) := by omega
      have HAA := Lib.hid hA
      obtain ⟨c0, hc0⟩ : ∃ c, (timesS a.l d k).2 = c := ⟨_, rfl⟩
      obtain ⟨L, hL⟩ : ∃ L, (timesS a.l d k).1 = L := ⟨_, rfl⟩
      have hcb := HS3.out
      rw [hc0, hL] at HT0
      rw [hc0] at hcb ⊢
      rw [hL] at hlen hu
      clear hL hc0 HS1 HS2 HS3
      have hmul := (digit_mul hx hd hcb).1
      have hmul2 : (x * d : Nat) < 18446744073709551616 := by omega
      have hmul3 : (x : Int) * (d : Int) = ((x * d : Nat) : Int) := by rw [Int.natCast_mul]
      obtain ⟨m, hm⟩ : ∃ m, x * d = m := ⟨_, rfl⟩
      rw [hm] at hmul hmul2 hmul3 HT0
      rw [HAA.out]
      clear hA
      go_wp2_with (at_builtin; refine wpList_append_one encD_len encD_one 141 Try.infoU32 rfl (by decide) (by decide) Try.underlying141 rfl _ _ rfl w.heap.size _ _ rfl (hu.alloc _) wr.heap.size ((m + c0) % 4294967296) rfl (Bk.new _ _ _ rfl) (by first | rfl | (simp [encD]; done) | (simp [encD]; omega)) hlen (by simp at hsz ⊢; omega) ?_; intro v5 w5 ho5 hg5 hv5)
      rw [show L ++ [(m + c0) % 4294967296] = (timesS a.l d (k + 1)).1 by rw [HT0.out]] at ho5
      have HC : Hid ((((m + c0) / 4294967296) : Nat) = (timesS a.l d (k + 1)).2) := by unfold Hid; rw [HT0.out]
      have hB5 := below_grown (hu.alloc _) hg5 (balloc hbw _) (by first | exact Nat.le_refl _ | omega)
      clear hu hg5 HT0
      go_wp2
      go_roundw
      case rel => exact ⟨k + 1, by omega, by go_num, by rw [← HC.out]; first | rfl | (congr 1; omega) | (congr 1; simp; omega), ho5, hB5⟩
      case measure => first | (simp [intOf]; done) | (simp [intOf]; omega)
    · have hkB : k = a.n := by omega
      obtain ⟨c0, hc0⟩ : ∃ c, (timesS a.l d k).2 = c := ⟨_, rfl⟩
      obtain ⟨L, hL⟩ : ∃ L, (timesS a.l d k).1 = L := ⟨_, rfl⟩
      obtain ⟨hok, hval⟩ := timesS_all HA.out.dg hd (k := k) (by have := HLA.out; omega)
      have hll := HS1.out
      have hcb := HS3.out
      rw [hc0, hL] at hok hval
      rw [hc0] at hcb ⊢
      rw [hL] at hlen hu hll
      clear hL hc0 HS1 HS2 HS3 HT0
      have HOK := Lib.hid hok
      have HVAL := Lib.hid hval
      clear hok hval
      skip
      go_wp2_with (at_builtin; refine wpList_append_one encD_len encD_one 141 Try.infoU32 rfl (by decide) (by decide) Try.underlying141 rfl _ _ rfl w.heap.size _ _ rfl (hu.alloc _) wr.heap.size (c0) rfl (Bk.new _ _ _ rfl) (by first | rfl | (simp [encD]; done) | (simp [encD]; omega)) hlen (by simp at hsz ⊢; omega) ?_; intro v5 w5 ho5 hg5 hv5)
      have hB5 := below_grown (hu.alloc _) hg5 (balloc hbw _) (by first | exact Nat.le_refl _ | omega)
      obtain ⟨dd, hdv, hdo, hdl⟩ := dg_of_own ho5 HOK.out
      have hdn : dd.n ≤ 4000 := by rw [← hdo.ln, hdl, List.length_append, hll]; simp; omega
      rw [← hdl] at HVAL
      have HDO := Lib.hid hdo
      clear hg5 hu ho5 hdo hdl
      subst hdv
      go_wp2_with fail
      refine (norm_any dd _ HDO.out hdn).mono ?_
      rintro e w6 ⟨d6, rfl, ho6, hl6, hb6⟩
      have HO6 := Lib.hid ho6
      have HL6 := Lib.hid hl6
      clear ho6 hl6
      go_wp2
      go_ret
      exact ⟨d6, rfl, HO6.out, by rw [HL6.out, HVAL.out], bstep hb6 hB5⟩
end Go.Proofs.Ytnefnnhnjmmebaa

namespace Go.Proofs.Ytnefnnhnjmmebaa
open Go.RowKit
set_option linter.unusedSimpArgs false
set_option linter.unusedVariables false

/-- What a call hands back: the digits of n, and true. -/
def RetD2 (n : Nat) (w : World) (e : Ending) (w' : World) : Prop := ∃ d : Dg, e = .returned (.tuple #[.slice d.A d.n d.c, .bool true]) ∧ d.ok w' ∧ d.l = dig n ∧ Frs w.heap.size d ∧ Below w.heap.size w w'
set_option maxHeartbeats 3200000 in
theorem sub_any (a b : Dg) (w : World) (ha : a.ok w) (hb : b.ok w) (hna : a.n ≤ 2000) (hnb : b.n ≤ 2000) (hle : valD b.l ≤ valD a.l) :
    Calls Try.prog 155 #[.slice a.A a.n a.c, .slice b.A b.n b.c] w (RetD2 (valD a.l - valD b.l) w) := by
  have HA := Lib.hid ha
  have HB := Lib.hid hb
  have HLA := Lib.hid ha.ln
  have HLB := Lib.hid hb.ln
  clear ha hb
  have hv : ¬ (cmpP (valD a.l) (valD b.l) < 0) := by unfold cmpP; rw [if_neg (Nat.not_lt.2 hle)]; split <;> omega
  obtain ⟨v, Hv⟩ : ∃ v, Hid (cmpP (valD a.l) (valD b.l) = v) := ⟨_, rfl⟩
  rw [Hv.out] at hv
  have HLE := Lib.hid hle
  clear hle
  go_enter Try.func155, Try.ntmps155
  go_wp2_with fail
  refine (cmp_any a b _ HA.out HB.out (by omega) (by omega) v Hv).mono ?_
  rintro e w' ⟨rfl, rfl⟩
  go_wp2_with fail
  have kO : Bk (w.alloc (.cells #[] 157)) w.heap.size 157 #[] := Bk.new _ _ _ rfl
  go_loopw [6, 7, 8] (fun u c i wr => ∃ k : Nat, k ≤ a.n ∧ i = .int .i64 k ∧ c = .int .u64 ((subS a.l b.l k).2 : Nat) ∧ OwnL encD 157 1 wr w.heap.size u (subS a.l b.l k).1 ∧ Below w.heap.size w wr) (fun _ _ i _ => a.n - (intOf i).toNat)
  case atStart => exact ⟨0, Nat.zero_le _, rfl, rfl, OwnL.lit (l := []) encD_len kO (by omega) (by decide) rfl, (by repeat (first | (with_reducible exact Below.refl _ _) | (with_reducible refine balloc ?_ _) | (with_reducible refine Below.drew ?_) | (with_reducible refine bdrewN ?_ _) | ((with_reducible refine bset ?_ ?_ _); rotate_left; focus (first | (with_reducible exact Nat.le_refl _) | (simp; done) | (simp; omega) | omega)) | (with_reducible refine bstep (by with_reducible assumption) ?_)))⟩
  case round =>
    obtain ⟨k, hk, rfl, rfl, hu, hbw⟩ := hrel
    obtain ⟨s1, s2, s3, s4⟩ := subS_spec HA.out.dg HB.out.dg k
    have hsz := hbw.size
    have hk4 : k ≤ 4000 := by omega
    have hlen : (subS a.l b.l k).1.length ≤ 4294967296 := by rw [s1]; omega
    have HT0 : Hid ((subS a.l b.l (k + 1)) = ((subS a.l b.l k).1 ++ [(4294967296 + a.l.getD k 0 - b.l.getD k 0 - (subS a.l b.l k).2) % 4294967296], 1 - (4294967296 + a.l.getD k 0 - b.l.getD k 0 - (subS a.l b.l k).2) / 4294967296)) := by unfold Hid; rfl
    have HS1 := Lib.hid s1
    have HS2 := Lib.hid s2
    have HS3 := Lib.hid s3
    clear s1 s2 s3 s4
    by_cases hlt : k < a.n
    · have hsz2 := hbw.size
      obtain ⟨x, Hx⟩ : ∃ x, Hid (a.l.getD k 0 = x) := ⟨_, rfl⟩
      obtain ⟨y, Hy⟩ : ∃ x, Hid (b.l.getD k 0 = x) := ⟨_, rfl⟩
      have hx : x < 4294967296 := by rw [← Hx.out]; exact okD_get HA.out.dg k
      have hy : y < 4294967296 := by rw [← Hy.out]; exact okD_get HB.out.dg k
      rw [Hx.out, Hy.out] at HT0
      obtain ⟨c0, hc0⟩ : ∃ c, (subS a.l b.l k).2 = c := ⟨_, rfl⟩
      obtain ⟨L, hL⟩ : ∃ L, (subS a.l b.l k).1 = L := ⟨_, rfl⟩
      have hcb := HS3.out
      rw [hc0, hL] at HT0
      rw [hc0] at hcb ⊢
      rw [hL] at hlen hu
      clear hL hc0 HS1 HS2 HS3
      go_wp2_with fail
      refine (digit_any a k _ (HA.out.below hbw) x Hx).mono ?_
      rintro e w' ⟨rfl, rfl⟩
      go_wp2_with fail
      refine (digit_any b k _ (HB.out.below hbw) y Hy).mono ?_
      rintro e w' ⟨rfl, rfl⟩
      go_wp2_with (at_builtin; refine wpList_append_one encD_len encD_one 141 Try.infoU32 rfl (by decide) (by decide) Try.underlying141 rfl _ _ rfl w.heap.size _ _ rfl (hu.alloc _) wr.heap.size ((4294967296 + x - y - c0) % 4294967296) rfl (Bk.new _ _ _ rfl) (by first | rfl | (simp [encD]; done) | (simp [encD]; omega)) hlen (by simp at hsz ⊢; omega) ?_; intro v5 w5 ho5 hg5 hv5)
      rw [show L ++ [(4294967296 + x - y - c0) % 4294967296] = (subS a.l b.l (k + 1)).1 by rw [HT0.out]] at ho5
      have HC : Hid (((1 - (4294967296 + x - y - c0) / 4294967296) : Nat) = (subS a.l b.l (k + 1)).2) := by unfold Hid; rw [HT0.out]
      have hB5 := below_grown (hu.alloc _) hg5 (balloc hbw _) (by first | exact Nat.le_refl _ | omega)
      clear hu hg5 HT0
      go_wp2
      go_roundw
      case rel => exact ⟨k + 1, by omega, by go_num, by rw [← HC.out]; first | rfl | (congr 1; omega) | (congr 1; simp; omega), ho5, hB5⟩
      case measure => first | (simp [intOf]; done) | (simp [intOf]; omega)
    · have hkB : k = a.n := by omega
      obtain ⟨L, hL⟩ : ∃ L, (subS a.l b.l k).1 = L := ⟨_, rfl⟩
      obtain ⟨hok, hval⟩ := subS_all HA.out.dg HB.out.dg HLE.out (k := k) (by have := HLA.out; omega)
      have hll := HS1.out
      rw [hL] at hok hval
      rw [hL] at hlen hu hll
      clear hL HS1 HS2 HS3 HT0
      have HVAL := Lib.hid hval
      obtain ⟨dd, hdv, hdo, hdl⟩ := dg_of_own hu hok
      clear hval hok
      have hdn : dd.n ≤ 4000 := by rw [← hdo.ln, hdl, hll]; omega
      rw [← hdl] at HVAL
      have HDO := Lib.hid hdo
      clear hu hdo hdl
      subst hdv
      go_wp2_with fail
      refine (norm_f dd _ HDO.out hdn).mono ?_
      rintro e w6 ⟨d6, rfl, ho6, hl6, hf6, hb6⟩
      have HO6 := Lib.hid ho6
      have HL6 := Lib.hid hl6
      clear ho6 hl6
      go_wp2
      go_ret2
      exact ⟨d6, rfl, HO6.out, by rw [HL6.out, HVAL.out], hf6.mono hbw.size, bstep hb6 hbw⟩
set_option maxHeartbeats 3200000 in
theorem up_any (a : Dg) (s : Nat) (w : World) (ha : a.ok w) (hna : a.n ≤ 2000) (hs : s < 32) :
    Calls Try.prog 152 #[.slice a.A a.n a.c, .int .i64 (s : Int)] w (RetD (valD a.l * 2 ^ s) w) := by
  have HA := Lib.hid ha
  have HLA := Lib.hid ha.ln
  clear ha
  have hd : 2 ^ s < 4294967296 := Nat.pow_lt_pow_right (by decide) (show s < 32 from hs)
  have q0 : ((s : Int).tdiv 32) = 0 := by rw [Int.tdiv_eq_ediv_of_nonneg (by omega)]; omega
  have q1 : ((s : Int).tmod 32) = (s : Int) := by rw [Int.tmod_eq_emod_of_nonneg (by omega)]; omega
  have q2 : (2 : Int) ^ s = ((2 ^ s : Nat) : Int) := by rw [Int.natCast_pow]; rfl
  obtain ⟨d, Hd⟩ : ∃ d, 2 ^ s = d := ⟨_, rfl⟩
  rw [Hd] at hd q2 ⊢
  clear Hd
  obtain ⟨i0, hi, hz0, hz1, hz2⟩ := info_parts Try.infoU32
  go_enter Try.func152, Try.ntmps152
  go_wp2_with (at_make; refine wpList_make_full _ rfl _ _ 141 rfl w.heap.size 157 i0 (.int .u32 0) 1 Try.underlying141 hi hz0 hz1 _ _ _ _ 0 rfl rfl (by first | rfl | omega) (by first | rfl | omega) (by omega) (by unfold maxLen; omega) (Nat.le_refl _) ?_; intro w0 hown0 hgrow0)
  go_loopw [5, 6, 7] (fun u c i wr => ∃ k : Nat, k ≤ a.n ∧ i = .int .i64 k ∧ c = .int .u64 ((timesS a.l d k).2 : Nat) ∧ OwnL encD 157 1 wr w.heap.size u (timesS a.l d k).1 ∧ Below w.heap.size w wr) (fun _ _ i _ => a.n - (intOf i).toNat)
  case atStart => exact ⟨0, Nat.zero_le _, rfl, rfl, by have h := hown0; rw [show (madeCells (Value.int .u32 0).cells (0 * 1)).toList = [] by simp [madeCells]] at h; exact h, below_grown (OwnL.nil (enc := encD) (e := 157) (size := 1) w w.heap.size) hgrow0 (Below.refl _ _) (Nat.le_refl _)⟩
  case round =>
    obtain ⟨k, hk, rfl, rfl, hu, hbw⟩ := hrel
    obtain ⟨s1, s2, s3, s4⟩ := timesS_spec HA.out.dg hd k
    have hsz := hbw.size
    have hk4 : k ≤ 4000 := by omega
    have hlen : (timesS a.l d k).1.length ≤ 4294967296 := by rw [s1]; omega
    have HT0 : Hid ((timesS a.l d (k + 1)) = ((timesS a.l d k).1 ++ [(a.l.getD k 0 * d + (timesS a.l d k).2) % 4294967296], (a.l.getD k 0 * d + (timesS a.l d k).2) / 4294967296)) := by unfold Hid; rfl
    have HS1 := Lib.hid s1
    have HS2 := Lib.hid s2
    have HS3 := Lib.hid s3
    clear s1 s2 s3 s4
    by_cases hlt : k < a.n
    · have hsz2 := hbw.size
      obtain ⟨x, Hx⟩ : ∃ x, Hid (a.l.getD k 0 = x) := ⟨_, rfl⟩
      have hx : x < 4294967296 := by rw [← Hx.out]; exact okD_get HA.out.dg k
      obtain ⟨g, o, hA, hg, hc⟩ := rdD (HA.out.below hbw).rd (show k < a.l.length by have := HLA.out; omega)
      rw [Hx.out] at HT0 hc
      have i0 : (0 : Int) ≤ (k : Int) := by omega
      have i1 : (k : Int) < (a.n : Int) := by omega
      have HAA := Lib.hid hA
      obtain ⟨c0, hc0⟩ : ∃ c, (timesS a.l d k).2 = c := ⟨_, rfl⟩
      obtain ⟨L, hL⟩ : ∃ L, (timesS a.l d k).1 = L := ⟨_, rfl⟩
      have hcb := HS3.out
      rw [hc0, hL] at HT0
      rw [hc0] at hcb ⊢
      rw [hL] at hlen hu
      clear hL hc0 HS1 HS2 HS3
      have hmul := (digit_mul hx hd hcb).1
      have hmul2 : (x * d : Nat) < 18446744073709551616 := by omega
      have hmul3 : (x : Int) * (d : Int) = ((x * d : Nat) : Int) := by rw [Int.natCast_mul]
      obtain ⟨m, hm⟩ : ∃ m, x * d = m := ⟨_, rfl⟩
      rw [hm] at hmul hmul2 hmul3 HT0
      rw [HAA.out]
      clear hA
      go_wp2_with (at_builtin; refine wpList_append_one encD_len encD_one 141 Try.infoU32 rfl (by decide) (by decide) Try.underlying141 rfl _ _ rfl w.heap.size _ _ rfl (hu.alloc _) wr.heap.size ((m + c0) % 4294967296) rfl (Bk.new _ _ _ rfl) (by first | rfl | (simp [encD]; done) | (simp [encD]; omega)) hlen (by simp at hsz ⊢; omega) ?_; intro v5 w5 ho5 hg5 hv5)
      rw [show L ++ [(m + c0) % 4294967296] = (timesS a.l d (k + 1)).1 by rw [HT0.out]] at ho5
      have HC : Hid ((((m + c0) / 4294967296) : Nat) = (timesS a.l d (k + 1)).2) := by unfold Hid; rw [HT0.out]
      have hB5 := below_grown (hu.alloc _) hg5 (balloc hbw _) (by first | exact Nat.le_refl _ | omega)
      clear hu hg5 HT0
      go_wp2
      go_roundw
      case rel => exact ⟨k + 1, by omega, by go_num, by rw [← HC.out]; first | rfl | (congr 1; omega) | (congr 1; simp; omega), ho5, hB5⟩
      case measure => first | (simp [intOf]; done) | (simp [intOf]; omega)
    · have hkB : k = a.n := by omega
      obtain ⟨c0, hc0⟩ : ∃ c, (timesS a.l d k).2 = c := ⟨_, rfl⟩
      obtain ⟨L, hL⟩ : ∃ L, (timesS a.l d k).1 = L := ⟨_, rfl⟩
      obtain ⟨hok, hval⟩ := timesS_all HA.out.dg hd (k := k) (by have := HLA.out; omega)
      have hll := HS1.out
      have hcb := HS3.out
      rw [hc0, hL] at hok hval
      rw [hc0] at hcb ⊢
      rw [hL] at hlen hu hll
      clear hL hc0 HS1 HS2 HS3 HT0
      have HOK := Lib.hid hok
      have HVAL := Lib.hid hval
      clear hok hval
      skip
      go_wp2_with (at_builtin; refine wpList_append_one encD_len encD_one 141 Try.infoU32 rfl (by decide) (by decide) Try.underlying141 rfl _ _ rfl w.heap.size _ _ rfl (hu.alloc _) wr.heap.size (c0) rfl (Bk.new _ _ _ rfl) (by first | rfl | (simp [encD]; done) | (simp [encD]; omega)) hlen (by simp at hsz ⊢; omega) ?_; intro v5 w5 ho5 hg5 hv5)
      have hB5 := below_grown (hu.alloc _) hg5 (balloc hbw _) (by first | exact Nat.le_refl _ | omega)
      obtain ⟨dd, hdv, hdo, hdl⟩ := dg_of_own ho5 HOK.out
      have hdn : dd.n ≤ 4000 := by rw [← hdo.ln, hdl, List.length_append, hll]; simp; omega
      rw [← hdl] at HVAL
      have HDO := Lib.hid hdo
      clear hg5 hu ho5 hdo hdl
      subst hdv
      go_wp2_with fail
      refine (norm_any dd _ HDO.out hdn).mono ?_
      rintro e w6 ⟨d6, rfl, ho6, hl6, hb6⟩
      have HO6 := Lib.hid ho6
      have HL6 := Lib.hid hl6
      clear ho6 hl6
      go_wp2
      go_ret
      exact ⟨d6, rfl, HO6.out, by rw [HL6.out, HVAL.out], bstep hb6 hB5⟩
end Go.Proofs.Ytnefnnhnjmmebaa

namespace Go.Proofs.Ytnefnnhnjmmebaa
open Go.RowKit
set_option linter.unusedSimpArgs false
set_option linter.unusedVariables false

theorem half_step {x y j : Nat} (h : y = x / 2 ^ j) : y / 2 = x / 2 ^ (j + 1) := by rw [h, Nat.div_div_eq_div_mul, Nat.pow_succ]
theorem half_pos {x y j : Nat} (h : y = x / 2 ^ j) (hx : x < 4294967296) (hy : 0 < y) : j < 32 := by
  have h1 : 2 ^ j ≤ x := by
    rw [h] at hy
    exact (Nat.div_pos_iff.1 hy).2
  have h2 : 2 ^ j < 2 ^ 32 := Nat.lt_of_le_of_lt h1 hx
  exact (Nat.pow_lt_pow_iff_right (by decide)).1 h2
set_option maxHeartbeats 3200000 in
theorem bitlen_any (a : Dg) (w : World) (ha : a.ok w) (hna : a.n ≤ 1000) (m : Nat) (hm : Hid ((dig (valD a.l)).length = m + 1)) :
    Calls Try.prog 148 #[.slice a.A a.n a.c] w (fun e w' => ∃ j : Nat, 1 ≤ j ∧ j ≤ 32 ∧ e = .returned (.int .i64 (32 * (m : Int) + j)) ∧ Below w.heap.size w w') := by
  have HA := Lib.hid ha
  have hm4 : m ≤ 1000 := by have h := dig_val_len ha.dg; rw [hm.out, ha.ln] at h; omega
  have hv0 : valD a.l ≠ 0 := fun h => by have := hm.out; rw [h, dig_zero] at this; simp at this
  have HTOP := Lib.hid (dig_top hv0).2
  clear ha hv0
  go_enter Try.func148, Try.ntmps148
  go_wp2_with fail
  refine (norm_any a _ HA.out (by omega)).mono ?_
  rintro e w1 ⟨d, rfl, ho, hl, hb1⟩
  have hdn : d.n = m + 1 := by rw [← ho.ln, hl, hm.out]
  obtain ⟨x, Hx⟩ : ∃ x, Hid (d.l.getD m 0 = x) := ⟨_, rfl⟩
  have hx : x < 4294967296 := by rw [← Hx.out]; exact okD_get ho.dg m
  have hx0 : 0 < x := by
    rw [← Hx.out, hl]
    have := HTOP.out
    rw [hm.out] at this
    exact Nat.pos_of_ne_zero this
  obtain ⟨g, o, hA, hg, hc⟩ := rdD ho.rd (show m < d.l.length by rw [ho.ln]; omega)
  rw [Hx.out] at hc
  have HAA := Lib.hid hA
  rw [HAA.out, hdn]
  have hn0 : (((m + 1 : Nat) : Int) == 0) = false := by simp; omega
  have i0 : (0 : Int) ≤ (m : Int) := by omega
  have e1 : ((m + 1 : Nat) : Int) - 1 = (m : Int) := by omega
  have e2 : ((m + 1 : Nat) : Int) = (m : Int) + 1 := by omega
  clear hA ho hl hdn HTOP e1 e2 hn0
  go_wp2_with fail
  go_loopw [4, 5] (fun n t wr => ∃ j y : Nat, j ≤ 32 ∧ n = .int .i64 (32 * (m : Int) + j) ∧ t = .int .u32 (y : Int) ∧ Hid (y = x / 2 ^ j) ∧ Hid (w1 = wr)) (fun _ t _ => (intOf t).toNat)
  case atStart => exact ⟨0, x, by omega, by simp, rfl, by unfold Hid; simp, by first | trivial | exact rfl⟩
  case round =>
    obtain ⟨j, y, hj, rfl, rfl, HY, hw⟩ := hrel
    obtain rfl := hw.out
    clear hw
    by_cases hy : 0 < y
    · have hj2 := half_pos HY.out hx hy
      have HY2 : Hid (y / 2 = x / 2 ^ (j + 1)) := half_step HY.out
      have hy2 : y < 4294967296 := by rw [HY.out]; exact Nat.lt_of_le_of_lt (Nat.div_le_self _ _) hx
      go_wp2
      go_roundw
      case rel => exact ⟨j + 1, y / 2, by omega, by first | rfl | (congr 1; done) | (congr 1; omega), by first | rfl | (congr 1; done) | (congr 1; omega), HY2, by first | trivial | exact rfl⟩
      case measure => simp [intOf]; omega
    · obtain rfl : y = 0 := by omega
      have hj1 : 1 ≤ j := by
        rcases Nat.eq_zero_or_pos j with h | h
        · have h2 := HY.out; rw [h] at h2; simp at h2; omega
        · exact h
      go_wp2
      go_ret
      exact ⟨j, hj1, hj, rfl, hb1⟩
set_option maxHeartbeats 1600000 in
theorem shiftup_any (a : Dg) (s : Nat) (w : World) (ha : a.ok w) (hna : a.n ≤ 1000) (hs : s < 32) :
    Calls Try.prog 149 #[.slice a.A a.n a.c, .int .i64 (s : Int)] w (RetD (valD a.l * 2 ^ s) w) := by
  have HA := Lib.hid ha
  clear ha
  have h0 : ¬ ((4096 : Int) < (s : Int)) := by omega
  go_enter Try.func149, Try.ntmps149
  go_wp2_with fail
  refine (up_any a s _ HA.out (by omega) hs).mono ?_
  rintro e w1 ⟨d, rfl, ho, hl, hb1⟩
  have HO := Lib.hid ho
  have HL := Lib.hid hl
  clear ho hl
  go_wp2
  go_ret
  exact ⟨d, rfl, HO.out, HL.out, hb1⟩
/-- Some digits are handed back. -/
def RetA (w : World) (e : Ending) (w' : World) : Prop := ∃ d : Dg, e = .returned (.slice d.A d.n d.c) ∧ d.ok w' ∧ Below w.heap.size w w'
set_option maxHeartbeats 3200000 in
theorem shiftdown_any (a : Dg) (s : Nat) (w : World) (ha : a.ok w) (hna : a.n ≤ 1000) (hs : s < 32) (hs1 : 1 ≤ s) :
    Calls Try.prog 149 #[.slice a.A a.n a.c, .int .i64 (-(s : Int))] w (RetA w) := by
  have HA := Lib.hid ha
  have HLA := Lib.hid ha.ln
  clear ha
  by_cases hz : a.n = 0
  · go_enter Try.func149, Try.ntmps149
    go_wp2
    have kO : Bk (w.alloc (.cells #[] 157)) w.heap.size 157 #[] := Bk.new _ _ _ rfl
    go_ret
    exact ⟨⟨some ⟨w.heap.size, 0, none⟩, 0, 0, []⟩, rfl, ⟨RdL.nil, rfl, okD_nil⟩, (by repeat (first | (with_reducible exact Below.refl _ _) | (with_reducible refine balloc ?_ _) | (with_reducible refine Below.drew ?_) | (with_reducible refine bdrewN ?_ _) | ((with_reducible refine bset ?_ ?_ _); rotate_left; focus (first | (with_reducible exact Nat.le_refl _) | (simp; done) | (simp; omega) | omega)) | (with_reducible refine bstep (by with_reducible assumption) ?_)))⟩
  · have hz1 : 1 ≤ a.n := by omega
    have hs0 : ¬ (s = 0) := by omega
    have hs00 : (s = 0) = False := by simp; omega
    clear hs0
    have q0 : ((s : Int).tdiv 32) = 0 := by rw [Int.tdiv_eq_ediv_of_nonneg (by omega)]; omega
    have q1 : ((s : Int).tmod 32) = (s : Int) := by rw [Int.tmod_eq_emod_of_nonneg (by omega)]; omega
    have hpow : 0 < 2 ^ s := Nat.pow_pos (by decide)
    have q2 : (2 : Int) ^ s = ((2 ^ s : Nat) : Int) := by rw [Int.natCast_pow]; rfl
    obtain ⟨p, Hp⟩ : ∃ d, 2 ^ s = d := ⟨_, rfl⟩
    rw [Hp] at q2 hpow
    clear Hp
    go_enter Try.func149, Try.ntmps149
    go_wp2_with fail
    have kO : Bk (w.alloc (.cells #[] 157)) w.heap.size 157 #[] := Bk.new _ _ _ rfl
    go_loopw [5, 6] (fun u i wr => ∃ (k : Nat) (L : List Nat), k ≤ a.n ∧ i = .int .i64 k ∧ OwnL encD 157 1 wr w.heap.size u L ∧ Hid (L.length = k ∧ okD L) ∧ Below w.heap.size w wr) (fun _ i _ => a.n - (intOf i).toNat)
    case atStart => exact ⟨0, [], Nat.zero_le _, rfl, OwnL.lit (l := []) encD_len kO (by omega) (by decide) rfl, ⟨rfl, okD_nil⟩, (by repeat (first | (with_reducible exact Below.refl _ _) | (with_reducible refine balloc ?_ _) | (with_reducible refine Below.drew ?_) | (with_reducible refine bdrewN ?_ _) | ((with_reducible refine bset ?_ ?_ _); rotate_left; focus (first | (with_reducible exact Nat.le_refl _) | (simp; done) | (simp; omega) | omega)) | (with_reducible refine bstep (by with_reducible assumption) ?_)))⟩
    case round =>
      obtain ⟨k, L, hk, rfl, hu, HL, hbw⟩ := hrel
      by_cases hlt : k < a.n
      · obtain ⟨x, Hx⟩ : ∃ x, Hid (a.l.getD (k + 1) 0 = x) := ⟨_, rfl⟩
        obtain ⟨y, Hy⟩ : ∃ x, Hid (a.l.getD k 0 = x) := ⟨_, rfl⟩
        have hx : x < 4294967296 := by rw [← Hx.out]; exact okD_get HA.out.dg _
        have hy : y < 4294967296 := by rw [← Hy.out]; exact okD_get HA.out.dg _
        have HC1 : Hid (Calls Try.prog 151 #[.slice a.A a.n a.c, .int .i64 ((k : Int) + 1)] wr fun e w' => e = .returned (.int .u64 (x : Int)) ∧ wr = w') := by
          have h := digit_any a (k + 1) wr (HA.out.below hbw) x Hx
          rwa [show ((k + 1 : Nat) : Int) = (k : Int) + 1 by omega] at h
        have hsz := hbw.size
        have hlen : L.length ≤ 4294967296 := by have := HL.out.1; omega
        have hk4 : (k : Int) < 1000 := by omega
        obtain ⟨m, hm⟩ : ∃ m, x * 4294967296 + y = m := ⟨_, rfl⟩
        have hmb : m < 18446744073709551616 := by omega
        have hm2 : (x : Int) * 4294967296 + (y : Int) = (m : Int) := by omega
        have hm3 : IntKind.u64.wrap ((x : Int) * 4294967296) = (x : Int) * 4294967296 := IntWalk.u64_in _ (by omega)
        obtain ⟨D, hD⟩ : ∃ D, m / p = D := ⟨_, rfl⟩
        have hm4 : (m : Int) / (p : Int) = (D : Int) := by rw [← hD, Int.natCast_ediv]
        have hDb : D < 18446744073709551616 := by rw [← hD]; exact Nat.lt_of_le_of_lt (Nat.div_le_self _ _) hmb
        clear hD
        go_wp2_with fail
        refine HC1.out.mono ?_
        rintro e w' ⟨rfl, rfl⟩
        go_wp2_with fail
        refine (digit_any a k _ (HA.out.below hbw) y Hy).mono ?_
        rintro e w' ⟨rfl, rfl⟩
        go_wp2_with (at_builtin; refine wpList_append_one encD_len encD_one 141 Try.infoU32 rfl (by decide) (by decide) Try.underlying141 rfl _ _ rfl w.heap.size _ _ rfl (hu.alloc _) wr.heap.size (D % 4294967296) rfl (Bk.new _ _ _ rfl) (by first | rfl | (simp [encD]; done) | (simp [encD]; omega)) hlen (by simp at hsz ⊢; omega) ?_; intro v5 w5 ho5 hg5 hv5)
        have HL2 : Hid ((L ++ [D % 4294967296]).length = k + 1 ∧ okD (L ++ [D % 4294967296])) := ⟨by rw [List.length_append, HL.out.1]; rfl, okD_snoc HL.out.2 (Nat.mod_lt _ (by decide))⟩
        have hB5 := below_grown (hu.alloc _) hg5 (balloc hbw _) (by first | exact Nat.le_refl _ | omega)
        clear hu hg5 HL
        go_wp2
        go_roundw
        case rel => exact ⟨k + 1, _, by omega, by go_num, ho5, HL2, hB5⟩
        case measure => simp [intOf]; omega
      · obtain ⟨dd, hdv, hdo, hdl⟩ := dg_of_own hu HL.out.2
        have hdn : dd.n ≤ 4000 := by rw [← hdo.ln, hdl, HL.out.1]; omega
        have HDO := Lib.hid hdo
        clear hu hdo hdl
        subst hdv
        go_wp2_with fail
        refine (norm_any dd _ HDO.out hdn).mono ?_
        rintro e w6 ⟨d6, rfl, ho6, hl6, hb6⟩
        have HO6 := Lib.hid ho6
        clear ho6 hl6
        go_wp2
        go_ret
        exact ⟨d6, rfl, HO6.out, bstep hb6 hbw⟩
end Go.Proofs.Ytnefnnhnjmmebaa

namespace Go.Proofs.Ytnefnnhnjmmebaa
open Go.RowKit
set_option linter.unusedSimpArgs false
set_option linter.unusedVariables false

/-- What often hands back: a digit and the rest. -/
def RetO (q n : Nat) (w : World) (e : Ending) (w' : World) : Prop := ∃ d : Dg, e = .returned (.tuple #[.int .u64 (q : Int), .slice d.A d.n d.c]) ∧ d.ok w' ∧ d.l = dig n ∧ Frs w.heap.size d ∧ Below w.heap.size w w'
set_option maxHeartbeats 6400000 in
theorem often_any (r b : Dg) (w : World) (hr : r.ok w) (hb : b.ok w) (hnr : r.n ≤ 1000) (hnb : b.n ≤ 1000) (hne : b.l ≠ []) (htop : b.l.getD (b.l.length - 1) 0 ≠ 0) (hlt : valD r.l < 4294967296 * valD b.l) :
    Calls Try.prog 150 #[.slice r.A r.n r.c, .slice b.A b.n b.c] w (RetO (valD r.l / valD b.l) (valD r.l % valD b.l) w) := by
  have HR := Lib.hid hr
  have HB := Lib.hid hb
  have HLB := Lib.hid hb.ln
  obtain ⟨k1, k2, k3⟩ := often_top hr.dg hb.dg hne htop hlt
  have hbl : 0 < b.l.length := List.length_pos_iff.2 hne
  obtain ⟨m, hm⟩ : ∃ m, b.n = m + 1 := ⟨b.n - 1, by have := HLB.out; omega⟩
  have hlm : b.l.length - 1 = m := by have := HLB.out; omega
  have hlen : b.l.length = b.n := HLB.out
  rw [hlm] at k1 htop
  rw [hlen] at k1
  obtain ⟨x1, H1⟩ : ∃ x, Hid (r.l.getD b.n 0 = x) := ⟨_, rfl⟩
  obtain ⟨x0, H0⟩ : ∃ x, Hid (r.l.getD m 0 = x) := ⟨_, rfl⟩
  obtain ⟨t, Ht⟩ : ∃ x, Hid (b.l.getD m 0 = x) := ⟨_, rfl⟩
  rw [H1.out, H0.out, Ht.out] at k1
  rw [Ht.out] at htop
  have b1 : x1 < 4294967296 := by rw [← H1.out]; exact okD_get hr.dg _
  have b0 : x0 < 4294967296 := by rw [← H0.out]; exact okD_get hr.dg _
  have bt : t < 4294967296 := by rw [← Ht.out]; exact okD_get hb.dg _
  obtain ⟨Y, hY⟩ : ∃ Y, x1 * 4294967296 + x0 = Y := ⟨_, rfl⟩
  rw [hY] at k1
  obtain ⟨Q, hQ⟩ : ∃ Q, Y / t = Q := ⟨_, rfl⟩
  rw [hQ] at k1
  obtain ⟨R, HRv⟩ : ∃ R, Hid (valD r.l = R) := ⟨_, rfl⟩
  obtain ⟨V, HV⟩ : ∃ R, Hid (valD b.l = R) := ⟨_, rfl⟩
  have hVb : V < 4294967296 ^ b.n := by rw [← HV.out, ← hlen]; exact val_lt hb.dg
  rw [HRv.out, HV.out] at k1 k2 hlt ⊢
  rw [HV.out] at k3
  obtain ⟨q, Hq⟩ : ∃ R, Hid (R = R) ∧ R = R := ⟨0, rfl, rfl⟩
  clear Hq q
  obtain ⟨q, Hq⟩ : ∃ d, Hid (R / V = d) := ⟨_, rfl⟩
  rw [Hq.out] at k1 k2 ⊢
  obtain ⟨d0, hd0⟩ : ∃ d, min Q 4294967295 = d := ⟨_, rfl⟩
  have hd1 : q ≤ d0 := by omega
  have hd2 : d0 ≤ 4294967295 := by omega
  have hQb : Q < 18446744073709551616 := by rw [← hQ]; exact Nat.lt_of_le_of_lt (Nat.div_le_self _ _) (by omega)
  have q1 : (if (4294967295 : Int) < (Q : Int) then (4294967295 : Int) else (Q : Int)) = (d0 : Int) := by split <;> omega
  have q2 : (if 4294967295 < Q then (4294967295 : Int) else (Q : Int)) = (d0 : Int) := by split <;> omega
  have e1 : IntKind.i64.wrap ((b.n : Int) - 1) = (m : Int) := by rw [show (b.n : Int) - 1 = (m : Int) by omega]; exact IntWalk.i64_in _ (by omega)
  have e2 : IntKind.u64.wrap ((x1 : Int) * 4294967296) = (x1 : Int) * 4294967296 := IntWalk.u64_in _ (by omega)
  have e3 : IntKind.u64.wrap ((x1 : Int) * 4294967296 + (x0 : Int)) = (Y : Int) := by rw [show (x1 : Int) * 4294967296 + (x0 : Int) = (Y : Int) by omega]; exact IntWalk.u64_in _ (by omega)
  have e4 : IntKind.u64.wrap (t : Int) = (t : Int) := IntWalk.u64_in _ (by omega)
  have e5 : IntKind.u64.wrap ((Y : Int).tdiv (t : Int)) = (Q : Int) := by rw [Int.tdiv_eq_ediv_of_nonneg (by omega), ← Int.natCast_ediv, hQ]; exact IntWalk.u64_in _ (by omega)
  have e8 : IntKind.u64.wrap ((Y : Int) / (t : Int)) = (Q : Int) := by rw [← Int.natCast_ediv, hQ]; exact IntWalk.u64_in _ (by omega)
  have e6 : ¬ (t = 0) := by omega
  have e7 : ((t : Int) == 0) = false := by simp; omega
  obtain ⟨g, o, hA, hg, hc⟩ := rdD hb.rd (show m < b.l.length by omega)
  rw [Ht.out] at hc
  have HC := Lib.hid hc
  have HA := Lib.hid hA
  have HVB := Lib.hid hVb
  have HLT := Lib.hid hlt
  have i0 : (0 : Int) ≤ (m : Int) := by omega
  have i1 : (m : Int) < (b.n : Int) := by omega
  clear hr hb hc hA hVb hlt hm hlm hlen hY hQ hd0 htop hne hbl k1
  go_enter Try.func150, Try.ntmps150
  go_wp2_with fail
  refine wp_region_gob 17 [(0, true), (1, true), (4, true), (5, true), (6, true), (9, true), (10, true), (11, true), (12, true), (13, true), (14, true), (2, false), (3, true), (7, false), (8, true), (15, true), (16, true)] (by kernel_rfl) (by kernel_rfl) (fun c a d v w h => by cases d <;> exact h) ?_
  repeat (first | (refine wpGo_pure (v := ?_) rfl rfl (fun w' hS => ?_) ?_; rotate_left; (· have qc := (hS.cell (p := ⟨g, o + m, none⟩) hg).trans HC.out; have hA' := HA.out; go_simp; exact rfl); (try simp only [Act.put, List.setIfInBounds_toArray, List.set_cons_zero, List.set_cons_succ])) | ((refine wpGo_skip rfl rfl ?_); (try simp only [Act.put, List.setIfInBounds_toArray, List.set_cons_zero, List.set_cons_succ])))
  refine wpGo_eff rfl (fun K hK => ?_)
  go_simp
  refine (digit_any r b.n _ HR.out.drew x1 H1).mono ?_
  rintro e w1 ⟨rfl, rfl⟩
  refine hK.out _ _ (by repeat (first | (with_reducible exact Below.refl _ _) | (with_reducible refine balloc ?_ _) | (with_reducible refine Below.drew ?_) | (with_reducible refine bdrewN ?_ _) | ((with_reducible refine bset ?_ ?_ _); rotate_left; focus (first | (with_reducible exact Nat.le_refl _) | (simp; done) | (simp; omega) | omega)) | (with_reducible refine bstep (by with_reducible assumption) ?_))) (fun hS1 => ?_)
  clear hK K
  repeat (first | (refine wpGo_pure (v := ?_) rfl rfl (fun w' hS => ?_) ?_; rotate_left; (· skip; go_simp; exact rfl); (try simp only [Act.put, List.setIfInBounds_toArray, List.set_cons_zero, List.set_cons_succ])) | ((refine wpGo_skip rfl rfl ?_); (try simp only [Act.put, List.setIfInBounds_toArray, List.set_cons_zero, List.set_cons_succ])))
  refine wpGo_eff rfl (fun K hK => ?_)
  go_simp
  refine (digit_any r m _ HR.out.drew x0 H0).mono ?_
  rintro e w2 ⟨rfl, rfl⟩
  refine hK.out _ _ (by repeat (first | (with_reducible exact Below.refl _ _) | (with_reducible refine balloc ?_ _) | (with_reducible refine Below.drew ?_) | (with_reducible refine bdrewN ?_ _) | ((with_reducible refine bset ?_ ?_ _); rotate_left; focus (first | (with_reducible exact Nat.le_refl _) | (simp; done) | (simp; omega) | omega)) | (with_reducible refine bstep (by with_reducible assumption) ?_))) (fun hS2 => ?_)
  clear hK K
  repeat (first | (refine wpGo_pure (v := ?_) rfl rfl (fun w' hS => ?_) ?_; rotate_left; (· skip; go_simp; exact rfl); (try simp only [Act.put, List.setIfInBounds_toArray, List.set_cons_zero, List.set_cons_succ])) | ((refine wpGo_skip rfl rfl ?_); (try simp only [Act.put, List.setIfInBounds_toArray, List.set_cons_zero, List.set_cons_succ])))
  refine wpGo_nil ?_
  simp only [List.drop_succ_cons, List.drop_zero]
  clear e1 e2 e3 e4 e5 e6 e7 e8
  go_wp2_with fail
  refine (times_any b d0 _ HB.out.drew (by omega) (by omega)).mono ?_
  rintro e w1 ⟨p0, rfl, po, pl, hb1⟩
  have HP0 : Hid (p0.ok w1 ∧ p0.l = dig (V * d0)) := ⟨po, by rw [pl, HV.out]⟩
  have hB1 : Below w.heap.size w w1 := (by repeat (first | (with_reducible exact Below.refl _ _) | (with_reducible refine balloc ?_ _) | (with_reducible refine Below.drew ?_) | (with_reducible refine bdrewN ?_ _) | ((with_reducible refine bset ?_ ?_ _); rotate_left; focus (first | (with_reducible exact Nat.le_refl _) | (simp; done) | (simp; omega) | omega)) | (with_reducible refine bstep (by with_reducible assumption) ?_)))
  clear po pl
  go_wp2_with fail
  go_loopw [8, 9] (fun x y wr => ∃ (d : Nat) (p : Dg), q ≤ d ∧ d ≤ 4294967295 ∧ x = .int .u64 (d : Int) ∧ y = .slice p.A p.n p.c ∧ Hid (p.ok wr ∧ p.l = dig (V * d)) ∧ Below w.heap.size w wr) (fun x _ _ => (intOf x).toNat)
  case atStart => exact ⟨d0, p0, hd1, hd2, rfl, rfl, HP0, hB1⟩
  case round =>
    obtain ⟨d, p, hqd, hd, rfl, rfl, HP, hbw⟩ := hrel
    have hpn : p.n ≤ b.n + 1 := by
      refine HP.out.1.le HP.out.2 ?_
      rw [Nat.pow_succ]
      exact Nat.mul_lt_mul_of_lt_of_le HVB.out (by omega) (by decide)
    have hpv : valD p.l = V * d := by rw [HP.out.2, val_dig]
    by_cases hlt2 : R < V * d
    · have Hv : Hid (cmpP (valD p.l) (valD r.l) = 1) := by unfold Hid cmpP; rw [hpv, HRv.out, if_neg (Nat.not_lt.2 (Nat.le_of_lt hlt2)), if_pos hlt2]
      have hdq : q + 1 ≤ d := by
        rw [← Hq.out]
        exact (Nat.div_lt_iff_lt_mul k3).2 (by rw [Nat.mul_comm]; exact hlt2)
      have hvd : V ≤ V * d := Nat.le_mul_of_pos_right _ (by omega)
      have HS : Hid (valD b.l ≤ valD p.l) := by unfold Hid; rw [hpv, HV.out]; exact hvd
      have HE : Hid (valD p.l - valD b.l = V * (d - 1)) := by unfold Hid; rw [hpv, HV.out, Nat.mul_sub, Nat.mul_one]
      clear hpv hvd hlt2
      go_wp2_with fail
      refine (cmp_any p r _ HP.out.1 (HR.out.below hbw) (by omega) (by omega) 1 Hv).mono ?_
      rintro e w' ⟨rfl, rfl⟩
      go_wp2_with fail
      refine (sub_any p b _ HP.out.1 (HB.out.below hbw) (by omega) (by omega) HS.out).mono ?_
      rintro e w2 ⟨p2, rfl, po, pl, pf, hb2⟩
      have HP2 : Hid (p2.ok w2 ∧ p2.l = dig (V * (d - 1))) := ⟨po, by rw [pl, HE.out]⟩
      clear po pl
      go_wp2
      go_roundw
      case rel => exact ⟨d - 1, p2, by omega, by omega, by congr 1; omega, rfl, HP2, bstep hb2 hbw⟩
      case measure => first | (simp [intOf]; omega) | (simp [intOf]; done)
    · have hdq : d = q := by
        have h2 : d ≤ q := by rw [← Hq.out, Nat.le_div_iff_mul_le k3, Nat.mul_comm]; omega
        omega
      subst hdq
      obtain ⟨v, Hv⟩ : ∃ v, Hid (cmpP (valD p.l) (valD r.l) = v) := ⟨_, rfl⟩
      have hv : ¬ (0 < v) := by rw [← Hv.out]; unfold cmpP; rw [hpv, HRv.out]; split <;> (try split) <;> omega
      have HS : Hid (valD p.l ≤ valD r.l) := by unfold Hid; rw [hpv, HRv.out]; omega
      have HE : Hid (valD r.l - valD p.l = R % V) := by
        unfold Hid
        rw [hpv, HRv.out, ← Hq.out]
        have := Nat.div_add_mod R V
        omega
      clear hpv hlt2
      go_wp2_with fail
      refine (cmp_any p r _ HP.out.1 (HR.out.below hbw) (by omega) (by omega) v Hv).mono ?_
      rintro e w' ⟨rfl, rfl⟩
      go_wp2_with fail
      refine (sub_any r p _ (HR.out.below hbw) HP.out.1 (by omega) (by omega) HS.out).mono ?_
      rintro e w2 ⟨p2, rfl, po, pl, pf, hb2⟩
      have HP2 : Hid (p2.ok w2 ∧ p2.l = dig (R % V)) := ⟨po, by rw [pl, HE.out]⟩
      clear po pl
      go_wp2
      go_ret2
      exact ⟨p2, rfl, HP2.out.1, HP2.out.2, pf.mono hbw.size, bstep hb2 hbw⟩
end Go.Proofs.Ytnefnnhnjmmebaa

namespace Go.Proofs.Ytnefnnhnjmmebaa
open Go.RowKit
set_option linter.unusedSimpArgs false
set_option linter.unusedVariables false

/-- Zeros that 'make' lays are an owned list. -/
theorem made_zero (n : Nat) : (madeCells (Value.int .u32 0).cells (n * 1)).toList = (List.replicate n 0).flatMap encD := by
  rw [Nat.mul_one]
  have h1 : ∀ m, (List.replicate m 0).flatMap encD = List.replicate m (Value.int .u32 0) := fun m => by
    induction m with
    | zero => rfl
    | succ m ih => rw [List.replicate_succ, List.flatMap_cons, ih, List.replicate_succ]; rfl
  rw [h1]
  apply List.ext_getElem?
  intro i
  rw [Array.getElem?_toList]
  simp [madeCells, List.getElem?_replicate, Value.cells, Nat.mod_one]
  split <;> simp_all
set_option maxHeartbeats 6400000 in
theorem mul_any (a b : Dg) (w : World) (ha : a.ok w) (hb : b.ok w) (hna : a.n ≤ 1000) (hnb : b.n ≤ 1000) :
    Calls Try.prog 145 #[.slice a.A a.n a.c, .slice b.A b.n b.c] w (RetD (valD a.l * valD b.l) w) := by
  have HA := Lib.hid ha
  have HB := Lib.hid hb
  have HLA := Lib.hid ha.ln
  have HLB := Lib.hid hb.ln
  clear ha hb
  obtain ⟨i0, hi, hz0, hz1, hz2⟩ := info_parts Try.infoU32
  have HSP := Lib.hid (mulS_spec (o := List.replicate (a.n + b.n + 1) 0) HA.out.dg HB.out.dg (zeros_ok _) (by rw [List.length_replicate, HLA.out, HLB.out]; omega) (zeros_get _) (zeros_val _))
  go_enter Try.func145, Try.ntmps145
  go_wp2_with (at_make; refine wpList_make_full _ rfl _ _ 141 rfl w.heap.size 157 i0 (.int .u32 0) 1 Try.underlying141 hi hz0 hz1 _ _ _ _ (a.n + b.n + 1) rfl rfl (by first | rfl | omega) (by first | rfl | omega) (by rw [hz2]; omega) (by unfold maxLen; omega) (Nat.le_refl _) ?_; intro w0 hown0 hgrow0)
  have hB0 := below_grown (OwnL.nil (enc := encD) (e := 157) (size := 1) w w.heap.size) hgrow0 (Below.refl _ _) (Nat.le_refl _)
  have ho0 : OwnL encD 157 1 w0 w.heap.size (.slice (some ⟨w.heap.size, 0, none⟩) (a.n + b.n + 1) (a.n + b.n + 1)) (List.replicate (a.n + b.n + 1) 0) := by
    unfold OwnL; rw [List.length_replicate, ← made_zero]; exact hown0
  clear hown0 hgrow0
  go_loopw [6] (fun i wr => ∃ (k : Nat) (L : List Nat), k ≤ a.n ∧ i = .int .i64 k ∧ OwnL encD 157 1 wr w.heap.size (.slice (some ⟨w.heap.size, 0, none⟩) (a.n + b.n + 1) (a.n + b.n + 1)) L ∧ Hid (L = mulS a.l b.l (List.replicate (a.n + b.n + 1) 0) k) ∧ Below w.heap.size w wr) (fun i _ => a.n - (intOf i).toNat)
  case atStart => exact ⟨0, _, Nat.zero_le _, rfl, ho0, rfl, hB0⟩
  case round =>
    obtain ⟨k, L, hk, rfl, hu, HL, hbw⟩ := hrel
    have hkl : k ≤ a.l.length := by rw [HLA.out]; exact hk
    obtain ⟨s1, s2, s3, s4⟩ := HSP.out k hkl
    rw [← HL.out] at s1 s2 s3 s4
    rw [List.length_replicate] at s1
    have HS1 := Lib.hid s1
    have HS2 := Lib.hid s2
    have HS4 := Lib.hid s4
    clear s1 s2 s3 s4
    by_cases hlt : k < a.n
    · obtain ⟨x, Hx⟩ : ∃ x, Hid (a.l.getD k 0 = x) := ⟨_, rfl⟩
      have hx : x < 4294967296 := by rw [← Hx.out]; exact okD_get HA.out.dg _
      have HSI := Lib.hid (mulI_spec (x := x) (i := k) hx HB.out.dg HS2.out (by rw [HS1.out, HLB.out]; omega))
      go_wp2_with fail
      go_loopw [7, 8] (fun c i wr => ∃ (j : Nat) (M : List Nat), j ≤ b.n ∧ i = .int .i64 j ∧ c = .int .u64 ((mulI x b.l k L j).2 : Nat) ∧ OwnL encD 157 1 wr w.heap.size (.slice (some ⟨w.heap.size, 0, none⟩) (a.n + b.n + 1) (a.n + b.n + 1)) M ∧ Hid (M = (mulI x b.l k L j).1) ∧ Below w.heap.size w wr) (fun _ i _ => b.n - (intOf i).toNat)
      case atStart => exact ⟨0, L, Nat.zero_le _, rfl, rfl, hu, rfl, hbw⟩
      case round =>
        obtain ⟨j, M, hj, rfl, rfl, hm, HM, hbw2⟩ := hrel
        obtain ⟨t1, t2, t3, _, _⟩ := HSI.out j (by rw [HLB.out]; exact hj)
        rw [← HM.out] at t1 t2
        rw [HS1.out] at t1
        by_cases hlt2 : j < b.n
        · obtain ⟨y, Hy⟩ : ∃ x, Hid (b.l.getD j 0 = x) := ⟨_, rfl⟩
          obtain ⟨z, Hz⟩ : ∃ x, Hid (M.getD (k + j) 0 = x) := ⟨_, rfl⟩
          have hy : y < 4294967296 := by rw [← Hy.out]; exact okD_get HB.out.dg _
          have hz : z < 4294967296 := by rw [← Hz.out]; exact okD_get t2 _
          have HC : Hid (mulI x b.l k L (j + 1) = (M.set (k + j) ((x * y + z + (mulI x b.l k L j).2) % 4294967296), (x * y + z + (mulI x b.l k L j).2) / 4294967296)) := by
            unfold Hid
            rw [← Hy.out, ← Hz.out, HM.out]; rfl
          obtain ⟨c0, hc0⟩ : ∃ c, (mulI x b.l k L j).2 = c := ⟨_, rfl⟩
          rw [hc0] at HC t3 ⊢
          clear hc0
          have hmm := (digit_mul2 hx hy t3 hz).1
          obtain ⟨m1, h1⟩ : ∃ m, x * y = m := ⟨_, rfl⟩
          rw [h1] at HC hmm
          obtain ⟨m3, h3⟩ : ∃ m, m1 + z + c0 = m := ⟨_, rfl⟩
          rw [h3] at HC hmm
          have e1 : IntKind.u64.wrap ((x : Int) * (y : Int)) = (m1 : Int) := by rw [← Int.natCast_mul, h1]; exact IntWalk.u64_in _ (by omega)
          obtain ⟨m2, h2⟩ : ∃ m, m1 + z = m := ⟨_, rfl⟩
          have e2 : IntKind.u64.wrap ((m1 : Int) + (z : Int)) = (m2 : Int) := by rw [← Int.natCast_add, h2]; exact IntWalk.u64_in _ (by omega)
          have e3 : IntKind.u64.wrap ((m2 : Int) + (c0 : Int)) = (m3 : Int) := by rw [← Int.natCast_add, ← h2, h3]; exact IntWalk.u64_in _ (by omega)
          have ex : IntKind.u64.wrap (x : Int) = (x : Int) := IntWalk.u64_in _ (by omega)
          have ey : IntKind.u64.wrap (y : Int) = (y : Int) := IntWalk.u64_in _ (by omega)
          have ez : IntKind.u64.wrap (z : Int) = (z : Int) := IntWalk.u64_in _ (by omega)
          obtain ⟨P, hP⟩ : ∃ P, k + j = P := ⟨_, rfl⟩
          have hP' : (k : Int) + (j : Int) = (P : Int) := by omega
          have e0 : IntKind.i64.wrap (P : Int) = (P : Int) := IntWalk.i64_in _ (by omega)
          obtain ⟨ga, oa, hAA, hga, hca⟩ := rdD (HA.out.below hbw2).rd (show k < a.l.length by have := HLA.out; omega)
          obtain ⟨gb, ob, hBB, hgb, hcb⟩ := rdD (HB.out.below hbw2).rd (show j < b.l.length by have := HLB.out; omega)
          rw [Hx.out] at hca
          rw [Hy.out] at hcb
          have HM1 := Lib.hid t1
          have HAA := Lib.hid hAA
          have HBB := Lib.hid hBB
          rw [hP] at HC Hz
          have hkj : P < M.length := by rw [t1]; omega
          obtain ⟨g', cap', cur', hv', _, kg, _⟩ := hm.block (by intro h; rw [h] at hkj; simp at hkj)
          obtain rfl : w.heap.size = g' := by have h3 := congrArg Value.ownBlock hv'; simpa [Value.ownBlock] using h3
          clear hv'
          have hcz := World.ownsRow.cellAt (g := w.heap.size) (show OwnL encD 157 1 wr w.heap.size (.slice (some ⟨w.heap.size, 0, none⟩) M.length (a.n + b.n + 1)) M by rw [t1]; exact hm) (P * 1) (by omega)
          have hfz := flat_at encD_len M P hkj 0 (.int .u32 (z : Int)) (by rw [← Hz.out, List.getD_eq_getElem?_getD, List.getElem?_eq_getElem hkj]; rfl)
          rw [Nat.add_zero] at hfz
          rw [hfz, Nat.mul_one] at hcz
          have hfr := kg.rules.2.1 P
          have hgl := kg.lt
          rw [HAA.out, HBB.out]
          have HCA := Lib.hid hca
          have HCB := Lib.hid hcb
          have HCZ := Lib.hid hcz
          have j0 : (0 : Int) ≤ (k : Int) := by omega
          have j1 : (k : Int) < (a.n : Int) := by omega
          have j2 : (0 : Int) ≤ (j : Int) := by omega
          have j3 : (j : Int) < (b.n : Int) := by omega
          have j4 : (0 : Int) ≤ (P : Int) := by omega
          have j5 : (P : Int) < (a.n : Int) + (b.n : Int) + 1 := by omega
          have j6 : P < a.n + b.n + 1 := by omega
          clear hca hcb hAA hBB hfz kg h1 h2 t1 t2 hkl hP
          go_wp2_with fail
          refine wp_region_gob 22 [(0, true), (1, true), (2, true), (3, true), (4, true), (5, true), (6, true), (7, true), (8, true), (9, true), (10, true), (11, true), (12, true), (13, true), (14, true), (15, true), (16, true), (17, true), (18, true), (19, true), (20, true), (21, true)] (by kernel_rfl) (by kernel_rfl) (fun c a d v w h => by cases d <;> exact h) ?_
          repeat (refine wpGo_pure (v := ?_) rfl rfl (fun w' hS => ?_) ?_; rotate_left; (· have qa := (hS.cell (p := ⟨ga, oa + k, none⟩) hga).trans HCA.out; have qb := (hS.cell (p := ⟨gb, ob + j, none⟩) hgb).trans HCB.out; have qz := (hS.cell (p := ⟨w.heap.size, P, none⟩) hgl).trans HCZ.out; go_simp; exact rfl); (try simp only [Act.put, List.setIfInBounds_toArray, List.set_cons_zero, List.set_cons_succ]))
          refine wpGo_nil ?_
          simp only [List.drop_succ_cons, List.drop_zero]
          have f1 : (m3 : Int) % 4294967296 = ((m3 % 4294967296 : Nat) : Int) := by omega
          obtain ⟨D, hD⟩ : ∃ D, m3 % 4294967296 = D := ⟨_, rfl⟩
          rw [hD] at f1 HC
          have f2 : (m3 : Int) / 4294967296 = ((m3 / 4294967296 : Nat) : Int) := by omega
          obtain ⟨q, hq⟩ : ∃ D, m3 / 4294967296 = D := ⟨_, rfl⟩
          rw [hq] at f2 HC
          clear hD hq ex ey ez e0 e1 e2 e3
          have hcz := HCZ.out
          have hm2 := OwnL.storeAt encD_len hm hkj 0 (.int .u32 (D : Int)) D (by decide) rfl (by rw [HM1.out])
          rw [Nat.mul_one, Nat.add_zero] at hm2
          have hB3 := bset hbw2 (p := ⟨w.heap.size, P, none⟩) (Nat.le_refl _) (.int .u32 (D : Int))
          have HM2 : Hid (M.set P D = (mulI x b.l k L (j + 1)).1) := by unfold Hid; rw [HC.out]
          have HC2 : Hid (q = (mulI x b.l k L (j + 1)).2) := by unfold Hid; rw [HC.out]
          have hm2d := Lib.hid hm2
          clear hm2 HC
          go_wp2
          go_roundw
          case rel => exact ⟨j + 1, _, by omega, by go_num, by rw [← HC2.out], hm2d.out, HM2, hB3.drew⟩
          case measure => first | (simp [intOf]; done) | (simp [intOf]; omega)
        · have hjb : j = b.n := by omega
          obtain ⟨_, _, _, t4, _⟩ := HSI.out j (by rw [HLB.out]; exact hj)
          rw [← HM.out] at t4
          obtain ⟨c0, hc0⟩ : ∃ c, (mulI x b.l k L j).2 = c := ⟨_, rfl⟩
          have HC : Hid (mulS a.l b.l (List.replicate (a.n + b.n + 1) 0) (k + 1) = M.set (k + j) c0) := by
            unfold Hid
            rw [mulS, Hx.out, ← HL.out, HLB.out, ← hjb, hc0, HM.out]
          rw [hc0] at t3 ⊢
          clear hc0 t4
          have HM1 := Lib.hid t1
          obtain ⟨P, hP⟩ : ∃ P, k + j = P := ⟨_, rfl⟩
          have hP' : (k : Int) + (b.n : Int) = (P : Int) := by omega
          rw [hP] at HC
          have hkj : P < M.length := by rw [t1]; omega
          obtain ⟨z, Hz⟩ : ∃ x, Hid (M.getD P 0 = x) := ⟨_, rfl⟩
          obtain ⟨g', cap', cur', hv', _, kg, _⟩ := hm.block (by intro h; rw [h] at hkj; simp at hkj)
          obtain rfl : w.heap.size = g' := by have h3 := congrArg Value.ownBlock hv'; simpa [Value.ownBlock] using h3
          clear hv'
          have hcz := World.ownsRow.cellAt (g := w.heap.size) (show OwnL encD 157 1 wr w.heap.size (.slice (some ⟨w.heap.size, 0, none⟩) M.length (a.n + b.n + 1)) M by rw [t1]; exact hm) (P * 1) (by omega)
          have hfz := flat_at encD_len M P hkj 0 (.int .u32 (z : Int)) (by rw [← Hz.out, List.getD_eq_getElem?_getD, List.getElem?_eq_getElem hkj]; rfl)
          rw [Nat.add_zero] at hfz
          rw [hfz, Nat.mul_one] at hcz
          have hfr := kg.rules.2.1 P
          have hgl := kg.lt
          have j4 : (0 : Int) ≤ (P : Int) := by omega
          have j5 : (P : Int) < (a.n : Int) + (b.n : Int) + 1 := by omega
          have j6 : P < a.n + b.n + 1 := by omega
          have hm2 := OwnL.storeAt encD_len hm hkj 0 (.int .u32 (c0 : Int)) c0 (by decide) rfl (by rw [HM1.out])
          rw [Nat.mul_one, Nat.add_zero, ← HC.out] at hm2
          have hB3 := bset hbw2 (p := ⟨w.heap.size, P, none⟩) (Nat.le_refl _) (.int .u32 (c0 : Int))
          have hm2d := Lib.hid hm2
          clear hfz kg t1 t2 hkl hP hm2
          go_wp2
          go_roundw
          case rel => exact ⟨k + 1, _, by omega, by go_num, hm2d.out, rfl, hB3⟩
          case measure => first | (simp [intOf]; done) | (simp [intOf]; omega)
    · have hkA : k = a.n := by omega
      have HV : Hid (valD L = valD a.l * valD b.l) := by
        unfold Hid; rw [HS4.out, valT_len (by rw [HLA.out]; omega)]
      have hu2 : OwnL encD 157 1 wr w.heap.size (.slice (some ⟨w.heap.size, 0, none⟩) (a.n + b.n + 1) (a.n + b.n + 1)) L := hu
      obtain ⟨A9, c9, hv9, hr9, _⟩ := hu.form encD_len
      have hA9 : A9 = some ⟨w.heap.size, 0, none⟩ := (congrArg (fun v => match v with | .slice A _ _ => A | _ => none) hv9).symm
      subst hA9
      have HDO : Hid (Dg.ok ⟨some ⟨w.heap.size, 0, none⟩, a.n + b.n + 1, a.n + b.n + 1, L⟩ wr) := ⟨hr9, HS1.out, HS2.out⟩
      clear hv9 hr9 hu hu2
      go_wp2_with fail
      refine (norm_any ⟨some ⟨w.heap.size, 0, none⟩, a.n + b.n + 1, a.n + b.n + 1, L⟩ _ HDO.out (by show a.n + b.n + 1 ≤ 4000; omega)).mono ?_
      rintro e w6 ⟨d6, rfl, ho6, hl6, hb6⟩
      have HO6 := Lib.hid ho6
      have HL6 := Lib.hid hl6
      clear ho6 hl6
      go_wp2
      go_ret
      exact ⟨d6, rfl, HO6.out, by rw [HL6.out, HV.out], bstep hb6 hbw⟩
end Go.Proofs.Ytnefnnhnjmmebaa

namespace Go.Proofs.Ytnefnnhnjmmebaa
open Go.RowKit
set_option linter.unusedSimpArgs false
set_option linter.unusedVariables false

/-- What DivMod hands back: the quotient's digits, whatever rest, no error. -/
def RetQ (n : Nat) (w : World) (e : Ending) (w' : World) : Prop := ∃ d r : Dg, e = .returned (.tuple #[.slice d.A d.n d.c, .slice r.A r.n r.c, .int .i64 0]) ∧ d.ok w' ∧ d.l = dig n ∧ Below w.heap.size w w'
theorem shiftneg_any (a : Dg) (s : Nat) (w : World) (ha : a.ok w) (hna : a.n ≤ 1000) (hs : s < 32) :
    Calls Try.prog 149 #[.slice a.A a.n a.c, .int .i64 (-(s : Int))] w (RetA w) := by
  rcases Nat.eq_zero_or_pos s with h | h
  · subst h
    have h2 := shiftup_any a 0 w ha hna (by decide)
    refine h2.mono ?_
    rintro e w' ⟨d, he, hd, _, hb⟩
    exact ⟨d, he, hd, hb⟩
  · exact shiftdown_any a s w ha hna hs h
set_option maxHeartbeats 12800000 in
theorem divmod_any (a b : Dg) (w : World) (ha : a.ok w) (hb : b.ok w) (hna : a.n ≤ 500) (hnb : b.n ≤ 500) (hb0 : valD b.l ≠ 0) :
    Calls Try.prog 142 #[.slice a.A a.n a.c, .slice b.A b.n b.c] w (RetQ (valD a.l / valD b.l) w) := by
  have HA := Lib.hid ha
  have HB := Lib.hid hb
  obtain ⟨X, HX⟩ : ∃ X, Hid (valD a.l = X) := ⟨_, rfl⟩
  obtain ⟨Z, HZ⟩ : ∃ X, Hid (valD b.l = X) := ⟨_, rfl⟩
  have hXb : X < 4294967296 ^ a.n := by rw [← HX.out, ← ha.ln]; exact val_lt ha.dg
  have hZb : Z < 4294967296 ^ b.n := by rw [← HZ.out, ← hb.ln]; exact val_lt hb.dg
  rw [HZ.out] at hb0
  obtain ⟨htn, htt⟩ := dig_top hb0
  obtain ⟨m, Hm⟩ : ∃ m, Hid ((dig Z).length = m + 1) := ⟨(dig Z).length - 1, by have := List.length_pos_iff.2 htn; unfold Hid; omega⟩
  have hm5 : m + 1 ≤ 500 := by have h := dig_len_le _ _ hZb; rw [Hm.out] at h; omega
  have HXB := Lib.hid hXb
  have HZB := Lib.hid hZb
  have HB0 := Lib.hid hb0
  rw [HX.out, HZ.out]
  clear ha hb hXb hZb hb0 htn htt
  go_enter Try.func142, Try.ntmps142
  go_wp2_with fail
  refine (norm_any b _ HB.out (by omega)).mono ?_
  rintro e w1 ⟨t, rfl, to, tl, hb1⟩
  have htnn : t.n = m + 1 := by rw [← to.ln, tl, HZ.out, Hm.out]
  have htv : Hid (valD t.l = Z) := by unfold Hid; rw [tl, val_dig, HZ.out]
  have HT := Lib.hid to
  have hn1 : ¬ (t.n = 0) := by omega
  have HTN := Lib.hid htnn
  clear htnn
  have htn5 : t.n ≤ 500 := by rw [HTN.out]; exact hm5
  clear to tl
  go_wp2_with fail
  refine (bitlen_any t _ HT.out (by omega) m (by unfold Hid; rw [htv.out]; exact Hm.out)).mono ?_
  rintro e w2 ⟨j, hj1, hj2, rfl, hb2⟩
  obtain ⟨s, hs⟩ : ∃ s, 32 - j = s := ⟨_, rfl⟩
  have hs1 : s < 32 := by omega
  have hby : 32 * (t.n : Int) - (32 * (m : Int) + (j : Int)) = (s : Int) := by have := HTN.out; omega
  have hB2 : Below w.heap.size w w2 := bstep hb2 hb1
  clear hs hn1 hj1 hj2
  have HAW := Lib.hid (HA.out.below hB2)
  have HTW := Lib.hid (HT.out.below hb2)
  go_wp2_with fail
  refine (shiftup_any a s _ HAW.out (by omega) hs1).mono ?_
  rintro e w3 ⟨u, rfl, uo, ul, hb3⟩
  have HUL := Lib.hid ul
  have HU3 := Lib.hid uo
  clear ul uo
  go_wp2_with fail
  refine (shiftup_any t s _ (HTW.out.below hb3) (by omega) hs1).mono ?_
  rintro e w4 ⟨v, rfl, vo, vl, hb4⟩
  have HVL := Lib.hid vl
  have HV4 := Lib.hid vo
  have HU4 := Lib.hid (HU3.out.below hb4)
  have hB4 : Below w.heap.size w w4 := bstep hb4 (bstep hb3 hB2)
  clear vl vo
  have h2s : 2 ^ s < 4294967296 := Nat.pow_lt_pow_right (by decide) (show s < 32 from hs1)
  have h2p : 0 < 2 ^ s := Nat.pow_pos (by decide)
  obtain ⟨p2, Hp2⟩ : ∃ p, 2 ^ s = p := ⟨_, rfl⟩
  have HUV : Hid (u.l = dig (X * p2)) := by unfold Hid; rw [HUL.out, HX.out, Hp2]
  have HVV : Hid (v.l = dig (Z * p2)) := by unfold Hid; rw [HVL.out, htv.out, Hp2]
  rw [Hp2] at h2s h2p
  clear HUL HVL Hp2
  have hun : u.n ≤ 501 := by
    have h := HU4.out.le HUV.out (k := a.n + 1) (by rw [Nat.pow_succ]; exact Nat.mul_lt_mul_of_lt_of_le HXB.out (by omega) (by decide))
    omega
  have hvn : v.n ≤ 501 := by
    have h := HV4.out.le HVV.out (k := b.n + 1) (by rw [Nat.pow_succ]; exact Nat.mul_lt_mul_of_lt_of_le HZB.out (by omega) (by decide))
    omega
  obtain ⟨V, HVd⟩ : ∃ V, Hid (Z * p2 = V) := ⟨_, rfl⟩
  have hV0 : 0 < V := by rw [← HVd.out]; exact Nat.mul_pos (Nat.pos_of_ne_zero HB0.out) h2p
  have HVv : Hid (valD v.l = V) := by unfold Hid; rw [HVV.out, val_dig, HVd.out]
  have HVt : Hid (v.l ≠ [] ∧ v.l.getD (v.l.length - 1) 0 ≠ 0) := by unfold Hid; rw [HVV.out, HVd.out]; exact dig_top (by omega)
  have HQV : Hid (valD u.l / V = X / Z) := by
    unfold Hid; rw [HUV.out, val_dig, ← HVd.out]; exact Nat.mul_div_mul_right _ _ h2p
  have HULN := Lib.hid HU4.out.ln
  clear hby
  obtain ⟨i0, hi, hz0, hz1, hz2⟩ := info_parts Try.infoU32
  go_wp2_with (at_make; refine wpList_make_full _ rfl _ _ 141 rfl w4.heap.size 157 i0 (.int .u32 0) 1 Try.underlying141 hi hz0 hz1 _ _ _ _ u.n rfl rfl (by first | rfl | omega) (by first | rfl | omega) (by rw [hz2]; omega) (by unfold maxLen; omega) (Nat.le_refl _) ?_; intro w5 hown5 hgrow5)
  have hB5 := below_grown (OwnL.nil (enc := encD) (e := 157) (size := 1) w4 w4.heap.size) hgrow5 (Below.refl _ _) (Nat.le_refl _)
  have ho5 : OwnL encD 157 1 w5 w4.heap.size (.slice (some ⟨w4.heap.size, 0, none⟩) u.n u.n) (List.replicate u.n 0) := by
    unfold OwnL; rw [List.length_replicate, ← made_zero]; exact hown5
  have ho6 := ho5.alloc (.cells #[] 157)
  have hB6 : Below w4.heap.size w4 (w5.alloc (.cells #[] 157)) := balloc hB5 _
  have HR0 : Hid ((Dg.mk (some ⟨w5.heap.size, 0, none⟩) 0 0 []).ok (w5.alloc (.cells #[] 157)) ∧ ([] : List Nat) = dig (valD (u.l.drop u.n) % V)) :=
    ⟨⟨RdL.nil, rfl, okD_nil⟩, by rw [List.drop_of_length_le (by rw [HULN.out]; exact Nat.le_refl _)]; show [] = dig (valD [] % V); rw [show valD [] = 0 from rfl, Nat.zero_mod, dig_zero]⟩
  have HQ0 : Hid ((List.replicate u.n 0).length = u.n ∧ okD (List.replicate u.n 0) ∧ valD ((List.replicate u.n 0).drop u.n) = valD (u.l.drop u.n) / V) :=
    ⟨List.length_replicate, zeros_ok _, by rw [List.drop_of_length_le (by rw [List.length_replicate]; exact Nat.le_refl _), List.drop_of_length_le (by rw [HULN.out]; exact Nat.le_refl _)]; show 0 = 0 / V; rw [Nat.zero_div]⟩
  clear hown5 hgrow5 ho5 hB5 hi hz0 hz1 hz2
  go_loopw [12, 13] (fun x i wr => ∃ (k : Nat) (r : Dg) (Q : List Nat), k ≤ u.n ∧ i = .int .i64 ((k : Int) - 1) ∧ x = .slice r.A r.n r.c ∧ Hid (r.ok wr ∧ r.l = dig (valD (u.l.drop k) % V)) ∧ OwnL encD 157 1 wr w4.heap.size (.slice (some ⟨w4.heap.size, 0, none⟩) u.n u.n) Q ∧ Hid (Q.length = u.n ∧ okD Q ∧ valD (Q.drop k) = valD (u.l.drop k) / V) ∧ Below w4.heap.size w4 wr) (fun _ i _ => (intOf i + 1).toNat)
  case atStart => exact ⟨u.n, _, _, Nat.le_refl _, rfl, rfl, HR0, ho6, HQ0, hB6⟩
  case round =>
    obtain ⟨k, r, Q, hk, rfl, rfl, HR, hQ, HQ, hbw⟩ := hrel
    obtain ⟨wo, hwo⟩ : ∃ x, x = wr := ⟨wr, rfl⟩
    subst hwo
    rcases Nat.eq_zero_or_pos k with hk0 | hk0
    · subst hk0
      obtain ⟨A9, c9, hv9, hr9, _⟩ := hQ.form encD_len
      have hA9 : A9 = some ⟨w4.heap.size, 0, none⟩ := (congrArg (fun v => match v with | .slice A _ _ => A | _ => none) hv9).symm
      subst hA9
      have HDO : Hid (Dg.ok ⟨some ⟨w4.heap.size, 0, none⟩, u.n, u.n, Q⟩ wo) := ⟨hr9, HQ.out.1, HQ.out.2.1⟩
      have HQE : Hid (valD Q = X / Z) := by have h := HQ.out.2.2; rw [List.drop_zero, List.drop_zero] at h; unfold Hid; rw [h, HQV.out]
      have hrn : r.n ≤ 502 := by
        have h := HR.out.1.le HR.out.2 (k := v.n) (Nat.lt_trans (Nat.mod_lt _ hV0) (by rw [← HVv.out, ← HV4.out.ln]; exact val_lt HV4.out.dg))
        omega
      clear hv9 hr9 hQ
      go_wp2_with fail
      refine (norm_any ⟨some ⟨w4.heap.size, 0, none⟩, u.n, u.n, Q⟩ _ HDO.out (by show u.n ≤ 4000; omega)).mono ?_
      rintro e w6 ⟨d6, rfl, do6, dl6, hb6⟩
      have HO6 := Lib.hid do6
      have HL6 := Lib.hid dl6
      clear do6 dl6
      go_wp2_with fail
      refine (shiftneg_any r s _ (HR.out.1.below hb6) (by omega) hs1).mono ?_
      rintro e w7 ⟨d7, rfl, do7, hb7⟩
      have HO7 := Lib.hid do7
      clear do7
      go_wp2
      refine bodyPost_ret (v := .tuple #[.slice d6.A d6.n d6.c, .slice d7.A d7.n d7.c, .int .i64 0]) ?_ rfl ⟨d6, d7, rfl, HO6.out.below hb7, by rw [HL6.out, HQE.out], bstep hb7 (bstep hb6 (bstep hbw hB4))⟩
      simp [results, Try.results142, go_sem]
    · obtain ⟨i, rfl⟩ : ∃ i, k = i + 1 := ⟨k - 1, by omega⟩
      have e1 : ((i + 1 : Nat) : Int) - 1 = (i : Int) := by omega
      rw [e1]
      clear e1
      have hiu : i < u.l.length := by rw [HULN.out]; omega
      have hi5 : i < 501 := by omega
      obtain ⟨x, Hx⟩ : ∃ x, Hid (u.l.getD i 0 = x) := ⟨_, rfl⟩
      have hx : x < 4294967296 := by rw [← Hx.out]; exact okD_get HU4.out.dg _
      obtain ⟨g, o, hA, hg, hc⟩ := rdD (HU4.out.below hbw).rd hiu
      rw [Hx.out] at hc
      have HAA := Lib.hid hA
      have hrn : r.n ≤ 502 := by
        have h := HR.out.1.le HR.out.2 (k := v.n) (Nat.lt_trans (Nat.mod_lt _ hV0) (by rw [← HVv.out, ← HV4.out.ln]; exact val_lt HV4.out.dg))
        omega
      obtain ⟨rv, Hrv⟩ : ∃ y, Hid (valD (u.l.drop (i + 1)) % V = y) := ⟨_, rfl⟩
      have hrvV : rv < V := by rw [← Hrv.out]; exact Nat.mod_lt _ hV0
      have HRv : Hid (valD r.l = rv) := by unfold Hid; rw [HR.out.2, val_dig, Hrv.out]
      have i0' : (0 : Int) ≤ (i : Int) := by omega
      have i1' : (i : Int) < (u.n : Int) := by omega
      have kO : Bk (wo.alloc (.cells #[.int .u32 (x : Int)] 157)) wo.heap.size 157 #[.int .u32 (x : Int)] := Bk.new _ _ _ rfl
      have hN0 : OwnL encD 157 1 (wo.alloc (.cells #[.int .u32 (x : Int)] 157)) wo.heap.size (.slice (some ⟨wo.heap.size, 0, none⟩) 1 1) (x :: r.l.take 0) := OwnL.lit (l := [x]) encD_len kO (Nat.le_refl _) (by simp [maxLen]) rfl
      rw [HAA.out]
      clear hA
      go_wp2_with fail
      go_loopw [14, 15] (fun y q wr => ∃ (j : Nat), j ≤ r.n ∧ q = .int .i64 (j : Int) ∧ OwnL encD 157 1 wr wo.heap.size y (x :: r.l.take j) ∧ Below wo.heap.size wo wr) (fun _ q _ => r.n - (intOf q).toNat)
      case atStart => exact ⟨0, Nat.zero_le _, rfl, hN0, (by repeat (first | (with_reducible exact Below.refl _ _) | (with_reducible refine balloc ?_ _) | (with_reducible refine Below.drew ?_) | (with_reducible refine bdrewN ?_ _) | ((with_reducible refine bset ?_ ?_ _); rotate_left; focus (first | (with_reducible exact Nat.le_refl _) | (simp; done) | (simp; omega) | omega)) | (with_reducible refine bstep (by with_reducible assumption) ?_)))⟩
      case round =>
        obtain ⟨j, hj, rfl, hN, hb2w⟩ := hrel
        by_cases hlt : j < r.n
        · have hjl : j < r.l.length := by rw [HR.out.1.ln]; exact hlt
          obtain ⟨y, Hy⟩ : ∃ x, Hid (r.l.getD j 0 = x) := ⟨_, rfl⟩
          obtain ⟨g2, o2, hA2, hg2, hc2⟩ := rdD (HR.out.1.below hb2w).rd hjl
          rw [Hy.out] at hc2
          have HA2 := Lib.hid hA2
          have j0 : (0 : Int) ≤ (j : Int) := by omega
          have j1 : (j : Int) < (r.n : Int) := by omega
          have hsz := hb2w.size
          have hlen : (x :: r.l.take j).length ≤ 4294967296 := by rw [List.length_cons, List.length_take]; omega
          have HT2 : Hid ((x :: r.l.take j) ++ [y] = x :: r.l.take (j + 1)) := by
            unfold Hid
            rw [List.cons_append, List.take_succ_eq_append_getElem hjl, ← Hy.out, List.getD_eq_getElem?_getD, List.getElem?_eq_getElem hjl]; rfl
          rw [HA2.out]
          clear hA2
          go_wp2_with (at_builtin; refine wpList_append_one encD_len encD_one 141 Try.infoU32 rfl (by decide) (by decide) Try.underlying141 rfl _ _ rfl wo.heap.size _ _ rfl (hN.alloc _) wr.heap.size (y) rfl (Bk.new _ _ _ rfl) (by first | rfl | (simp [encD]; done) | (simp [encD]; omega)) hlen (by simp at hsz ⊢; omega) ?_; intro v8 w8 ho8 hg8 hv8)
          rw [HT2.out] at ho8
          have hB8 := below_grown (hN.alloc _) hg8 (balloc hb2w _) (by first | exact Nat.le_refl _ | omega)
          clear hN hg8 HT2
          go_wp2
          go_roundw
          case rel => exact ⟨j + 1, by omega, by go_num, ho8, hB8⟩
          case measure => first | (simp [intOf]; done) | (simp [intOf]; omega)
        · have hjr : j = r.n := by omega
          have HE : Hid (x :: r.l.take j = x :: r.l) := by unfold Hid; rw [List.take_of_length_le (by rw [HR.out.1.ln]; omega)]
          rw [HE.out] at hN
          obtain ⟨nx, hnv, hno, hnl⟩ := dg_of_own hN (fun d hd => by
            rcases List.mem_cons.1 hd with rfl | hd
            · exact hx
            · exact HR.out.1.dg d hd)
          have HNO := Lib.hid hno
          have hnn : nx.n ≤ 600 := by rw [← hno.ln, hnl, List.length_cons, HR.out.1.ln]; omega
          have HNV : Hid (valD nx.l = x + 4294967296 * rv) := by unfold Hid; rw [hnl, valD, HRv.out]
          have hQ2 := hQ.below hb2w
          have HNSZ : w4.heap.size < wr.heap.size := by
            have h1 := hb2w.size
            obtain ⟨g', _, _, hv', _, kg, _⟩ := hQ.block (by intro h; have h2 := HQ.out.1; rw [h] at h2; simp at h2; omega)
            have h3 := congrArg Value.ownBlock hv'
            have h4 : w4.heap.size = g' := by simpa [Value.ownBlock] using h3
            have h5 := kg.lt
            omega
          have hB9 := bstep hb2w hbw
          have HVW := Lib.hid (HV4.out.below hB9)
          clear hno hnl hN HE hjr
          subst hnv
          go_wp2_with fail
          refine (norm_any nx _ HNO.out (by omega)).mono ?_
          rintro e w6 ⟨d6, rfl, do6, dl6, hb6⟩
          have hd6 : valD d6.l = x + 4294967296 * rv := by rw [dl6, val_dig, HNV.out]
          have hd6n : d6.n ≤ 1000 := by
            have h := dig_val_len HNO.out.dg
            rw [← dl6, do6.ln, HNO.out.ln] at h
            omega
          have HD6 := Lib.hid do6
          have HDV := Lib.hid hd6
          have HLT : Hid (valD d6.l < 4294967296 * valD v.l) := by
            unfold Hid; rw [hd6, HVv.out]
            have h9 : 4294967296 * rv + 4294967296 ≤ 4294967296 * V := by omega
            omega
          clear do6 dl6 hd6
          go_wp2_with fail
          refine (often_any d6 v _ HD6.out (HVW.out.below hb6) hd6n (by omega) HVt.out.1 HVt.out.2 HLT.out).mono ?_
          rintro e w7 ⟨d7, rfl, do7, dl7, df7, hb7⟩
          obtain ⟨qd, Hqd⟩ : ∃ q, Hid (valD d6.l / valD v.l = q) := ⟨_, rfl⟩
          have hqd : qd < 4294967296 := by
            rw [← Hqd.out]
            exact (Nat.div_lt_iff_lt_mul (by rw [HVv.out]; exact hV0)).2 HLT.out
          rw [Hqd.out]
          have HD7 := Lib.hid do7
          have HL7 := Lib.hid dl7
          have hQ3 := (hQ2.below hb6).below hb7
          have hB7 := bstep hb7 (bstep hb6 hB9)
          obtain ⟨gd1, gd2⟩ := div_step (V := V) (r := rv) (d := x) hV0 hrvV (valD (u.l.drop (i + 1)))
          have hdv : valD (u.l.drop i) = valD (u.l.drop (i + 1)) * 4294967296 + x := by rw [drop_val hiu, Hx.out, Nat.mul_comm]; omega
          rw [Hrv.out, ← hdv, show rv * 4294967296 + x = x + 4294967296 * rv by omega, ← HDV.out, ← HVv.out, Hqd.out] at gd1
          rw [Hrv.out, ← hdv, show rv * 4294967296 + x = x + 4294967296 * rv by omega, ← HDV.out, ← HVv.out] at gd2
          have hiQ : i < Q.length := by rw [HQ.out.1]; omega
          have HQ2 : Hid ((Q.set i qd).length = u.n ∧ okD (Q.set i qd) ∧ valD ((Q.set i qd).drop i) = valD (u.l.drop i) / V) := by
            refine ⟨by rw [List.length_set]; exact HQ.out.1, okD_set HQ.out.2.1 _ _ hqd, ?_⟩
            rw [set_drop hiQ, valD, HQ.out.2.2, ← HVv.out, gd1]
            omega
          have HR2 : Hid (d7.l = dig (valD (u.l.drop i) % V)) := by unfold Hid; rw [HL7.out, ← HVv.out, gd2]
          obtain ⟨z, Hz⟩ : ∃ x, Hid (Q.getD i 0 = x) := ⟨_, rfl⟩
          obtain ⟨g', cap', cur', hv', _, kg, _⟩ := hQ3.block (by intro h; rw [h] at hiQ; simp at hiQ)
          obtain rfl : w4.heap.size = g' := by have h3 := congrArg Value.ownBlock hv'; simpa [Value.ownBlock] using h3
          clear hv' gd1 gd2 hdv
          have hcz := World.ownsRow.cellAt (g := w4.heap.size) (show OwnL encD 157 1 w7 w4.heap.size (.slice (some ⟨w4.heap.size, 0, none⟩) Q.length u.n) Q by rw [HQ.out.1]; exact hQ3) (i * 1) (by omega)
          have hfz := flat_at encD_len Q i hiQ 0 (.int .u32 (z : Int)) (by rw [← Hz.out, List.getD_eq_getElem?_getD, List.getElem?_eq_getElem hiQ]; rfl)
          rw [Nat.add_zero] at hfz
          rw [hfz, Nat.mul_one] at hcz
          have hfr := kg.rules.2.1 i
          have hgl := kg.lt
          have f1 : (qd : Int) % 4294967296 = (qd : Int) := by omega
          have hm2 := OwnL.storeAt encD_len hQ3 hiQ 0 (.int .u32 (qd : Int)) qd (by decide) rfl HQ.out.1.symm
          rw [Nat.mul_one, Nat.add_zero] at hm2
          have hB3 := bset hB7 (p := ⟨w4.heap.size, i, none⟩) (Nat.le_refl _) (.int .u32 (qd : Int))
          have HM2 := Lib.hid hm2
          have HD7S : Hid (Dg.ok d7 (w7.setCell ⟨w4.heap.size, i, none⟩ (.int .u32 (qd : Int)))) := ⟨HD7.out.rd.far (fun g0 o0 e0 => by have h1 := df7 g0 o0 e0; have h2 := hb6.size; have h3 := HNSZ; show g0 ≠ w4.heap.size; omega) _, HD7.out.ln, HD7.out.dg⟩
          clear hfz kg hm2 hQ3 hQ2
          go_wp2
          go_roundw
          case rel => exact ⟨i, d7, _, by omega, by go_num, rfl, ⟨HD7S.out, HR2.out⟩, HM2.out, HQ2, hB3⟩
          case measure => first | (simp [intOf]; done) | (simp [intOf]; omega)
end Go.Proofs.Ytnefnnhnjmmebaa

namespace Go.Proofs.Ytnefnnhnjmmebaa
open Go.RowKit
set_option linter.unusedSimpArgs false
set_option linter.unusedVariables false

/-- An integer that is not negative is handed back, in new memory. -/
def RetI (n : Nat) (w : World) (e : Ending) (w' : World) : Prop := ∃ d : Dg, e = .returned (.agg #[.bool false, .slice d.A d.n d.c]) ∧ d.ok w' ∧ d.l = dig n ∧ Frs w.heap.size d ∧ Below w.heap.size w w'
theorem Dg.ok.far {d : Dg} {w : World} (h : d.ok w) {b : Nat} (hf : Frs b d) {p : Addr} (hp : p.block < b) (u : Value) : d.ok (w.setCell p u) :=
  ⟨h.rd.far (fun g o e => by have := hf g o e; omega) u, h.ln, h.dg⟩
set_option maxHeartbeats 1600000 in
theorem bnew_any (a : Dg) (w : World) (ha : a.ok w) (hna : a.n ≤ 4000) :
    Calls Try.prog 144 #[.bool false, .slice a.A a.n a.c] w (RetI (valD a.l) w) := by
  have HA := Lib.hid ha
  clear ha
  go_enter Try.func144, Try.ntmps144
  go_wp2_with fail
  refine (norm_f a _ (HA.out.below (by repeat (first | (with_reducible exact Below.refl _ _) | (with_reducible refine balloc ?_ _) | (with_reducible refine Below.drew ?_) | (with_reducible refine bdrewN ?_ _) | ((with_reducible refine bset ?_ ?_ _); rotate_left; focus (first | (with_reducible exact Nat.le_refl _) | (simp; done) | (simp; omega) | omega)) | (with_reducible refine bstep (by with_reducible assumption) ?_)))) hna).mono ?_
  rintro e w1 ⟨d, rfl, do1, dl1, df1, hb1⟩
  have HD := Lib.hid do1
  have HL := Lib.hid dl1
  have HF := Lib.hid df1
  have kO1 : Bk w1 (w.heap.size) 143 #[.bool false, .slice none 0 0] := (by repeat (first | (with_reducible assumption) | ((with_reducible refine Bk.new _ _ _ ?_); first | (with_reducible rfl) | (simp; done)) | (with_reducible refine Bk.alloc ?_ _) | (with_reducible refine Bk.drew ?_) | (with_reducible refine Bk.drewN ?_ _) | ((with_reducible refine Bk.far ?_ ?_ _); rotate_left; focus (first | (simp; done) | (simp; omega))) | (with_reducible refine Bk.below ?_ (by with_reducible assumption)))); obtain ⟨kcO1, kfO1, kaO1, kgO1, klO1⟩ := kO1.rules
  have hB1 : Below w.heap.size w w1 := (by repeat (first | (with_reducible exact Below.refl _ _) | (with_reducible refine balloc ?_ _) | (with_reducible refine Below.drew ?_) | (with_reducible refine bdrewN ?_ _) | ((with_reducible refine bset ?_ ?_ _); rotate_left; focus (first | (with_reducible exact Nat.le_refl _) | (simp; done) | (simp; omega) | omega)) | (with_reducible refine bstep (by with_reducible assumption) ?_)))
  clear do1 dl1 df1
  have hs1 := (HD.out.far HF.out (p := ⟨w.heap.size, 0, none⟩) (by show w.heap.size < _; simp) (.bool false)).far HF.out (p := ⟨w.heap.size, 1, none⟩) (by show w.heap.size < _; simp) (.slice d.A d.n d.c)
  have HS1 := Lib.hid hs1
  clear hs1
  go_wp2
  refine bodyPost_ret (v := .agg #[.bool false, .slice d.A d.n d.c]) ?_ rfl ⟨d, rfl, HS1.out, HL.out, HF.out.mono (by simp), (by repeat (first | (with_reducible exact Below.refl _ _) | (with_reducible refine balloc ?_ _) | (with_reducible refine Below.drew ?_) | (with_reducible refine bdrewN ?_ _) | ((with_reducible refine bset ?_ ?_ _); rotate_left; focus (first | (with_reducible exact Nat.le_refl _) | (simp; done) | (simp; omega) | omega)) | (with_reducible refine bstep (by with_reducible assumption) ?_)))⟩
  simp [results, Try.results144, go_sem, kcO1]
set_option maxHeartbeats 1600000 in
theorem fromint_any (n : Nat) (w : World) (hn : n < 4611686018427387904) :
    Calls Try.prog 136 #[.int .i64 (n : Int)] w (RetI n w) := by
  obtain ⟨lo, hlo⟩ : ∃ x, n % 4294967296 = x := ⟨_, rfl⟩
  obtain ⟨hi, hhi⟩ : ∃ x, n / 4294967296 = x := ⟨_, rfl⟩
  have f1 : (n : Int) % 4294967296 = (lo : Int) := by omega
  have f2 : (n : Int) / 4294967296 = (hi : Int) := by omega
  have f3 : (hi : Int) % 4294967296 = (hi : Int) := by omega
  have HV : Hid (valD [lo, hi] = n) := by unfold Hid; simp only [valD]; omega
  have HO : Hid (okD [lo, hi]) := fun d hd => by
    simp at hd
    rcases hd with rfl | rfl <;> omega
  have h0 : ¬ ((n : Int) < 0) := by omega
  clear hlo hhi
  have kN : ∀ W : World, Bk (W.alloc (.cells #[.int .u32 (lo : Int), .int .u32 (hi : Int)] 157)) W.heap.size 157 #[.int .u32 (lo : Int), .int .u32 (hi : Int)] := fun W => Bk.new _ _ _ rfl
  have HK : Hid (∀ W : World, (Dg.mk (some ⟨W.heap.size, 0, none⟩) 2 2 [lo, hi]).ok (W.alloc (.cells #[.int .u32 (lo : Int), .int .u32 (hi : Int)] 157))) := fun W => ⟨rd_of_bk encD_len (kN W) rfl, rfl, HO.out⟩
  clear kN
  go_enter Try.func136, Try.ntmps136
  go_wp2_with fail
  refine (bnew_any ⟨some ⟨w.heap.size + 1, 0, none⟩, 2, 2, [lo, hi]⟩ _ (by have h := HK.out (w.alloc (.cells #[.bool false, .slice none 0 0] 143)); simpa using h) (by show 2 ≤ 4000; omega)).mono ?_
  rintro e w1 ⟨d, rfl, do1, dl1, df1, hb1⟩
  have HD := Lib.hid do1
  have HL := Lib.hid dl1
  have HF := Lib.hid df1
  have kO1 : Bk w1 (w.heap.size) 143 #[.bool false, .slice none 0 0] := (by repeat (first | (with_reducible assumption) | ((with_reducible refine Bk.new _ _ _ ?_); first | (with_reducible rfl) | (simp; done)) | (with_reducible refine Bk.alloc ?_ _) | (with_reducible refine Bk.drew ?_) | (with_reducible refine Bk.drewN ?_ _) | ((with_reducible refine Bk.far ?_ ?_ _); rotate_left; focus (first | (simp; done) | (simp; omega))) | (with_reducible refine Bk.below ?_ (by with_reducible assumption)))); obtain ⟨kcO1, kfO1, kaO1, kgO1, klO1⟩ := kO1.rules
  have hB1 : Below w.heap.size w w1 := (by repeat (first | (with_reducible exact Below.refl _ _) | (with_reducible refine balloc ?_ _) | (with_reducible refine Below.drew ?_) | (with_reducible refine bdrewN ?_ _) | ((with_reducible refine bset ?_ ?_ _); rotate_left; focus (first | (with_reducible exact Nat.le_refl _) | (simp; done) | (simp; omega) | omega)) | (with_reducible refine bstep (by with_reducible assumption) ?_)))
  clear do1 dl1 df1
  have hs1 := (HD.out.far HF.out (p := ⟨w.heap.size, 0, none⟩) (by show w.heap.size < _; simp; try omega) (.bool false)).far HF.out (p := ⟨w.heap.size, 1, none⟩) (by show w.heap.size < _; simp; try omega) (.slice d.A d.n d.c)
  have HS1 := Lib.hid hs1
  clear hs1
  go_wp2
  refine bodyPost_ret (v := .agg #[.bool false, .slice d.A d.n d.c]) ?_ rfl ⟨d, rfl, HS1.out, by rw [HL.out, HV.out], HF.out.mono (by simp; try omega), (by repeat (first | (with_reducible exact Below.refl _ _) | (with_reducible refine balloc ?_ _) | (with_reducible refine Below.drew ?_) | (with_reducible refine bdrewN ?_ _) | ((with_reducible refine bset ?_ ?_ _); rotate_left; focus (first | (with_reducible exact Nat.le_refl _) | (simp; done) | (simp; omega) | omega)) | (with_reducible refine bstep (by with_reducible assumption) ?_)))⟩
  simp [results, Try.results136, go_sem, kcO1]
set_option maxHeartbeats 1600000 in
theorem imul_any (a b : Dg) (w : World) (ha : a.ok w) (hb : b.ok w) (hna : a.n ≤ 100) (hnb : b.n ≤ 100) :
    Calls Try.prog 135 #[.agg #[.bool false, .slice a.A a.n a.c], .agg #[.bool false, .slice b.A b.n b.c]] w (RetI (valD a.l * valD b.l) w) := by
  have HA := Lib.hid ha
  have HB := Lib.hid hb
  have hpb : valD a.l * valD b.l < 4294967296 ^ (a.n + b.n) := by
    rw [Nat.pow_add, ← ha.ln, ← hb.ln]
    exact Nat.mul_lt_mul'' (val_lt ha.dg) (val_lt hb.dg)
  have HPB := Lib.hid hpb
  clear ha hb hpb
  go_enter Try.func135, Try.ntmps135
  go_wp2_with fail
  refine wp_region_gob 11 [(0, true), (1, true), (2, true), (3, true), (4, true), (5, true), (6, true), (7, true), (8, true), (9, false), (10, false)] (by kernel_rfl) (by kernel_rfl) (fun c a d v w h => by cases d <;> exact h) ?_
  repeat (first | (refine wpGo_pure (v := ?_) rfl rfl (fun w' hS => ?_) ?_; rotate_left; (· have kAp : Bk w' (w.heap.size) 143 #[.bool false, .slice a.A a.n a.c] := (by repeat (first | (with_reducible assumption) | ((with_reducible refine Bk.new _ _ _ ?_); first | (with_reducible rfl) | (simp; done)) | (with_reducible refine Bk.alloc ?_ _) | (with_reducible refine Bk.drew ?_) | (with_reducible refine Bk.drewN ?_ _) | ((with_reducible refine Bk.far ?_ ?_ _); rotate_left; focus (first | (simp; done) | (simp; omega))) | (with_reducible refine Bk.below ?_ (by with_reducible assumption)))); obtain ⟨kcAp, kfAp, kaAp, kgAp, klAp⟩ := kAp.rules; have kBp : Bk w' (w.heap.size + 1) 143 #[.bool false, .slice b.A b.n b.c] := (by repeat (first | (with_reducible assumption) | ((with_reducible refine Bk.new _ _ _ ?_); first | (with_reducible rfl) | (simp; done)) | (with_reducible refine Bk.alloc ?_ _) | (with_reducible refine Bk.drew ?_) | (with_reducible refine Bk.drewN ?_ _) | ((with_reducible refine Bk.far ?_ ?_ _); rotate_left; focus (first | (simp; done) | (simp; omega))) | (with_reducible refine Bk.below ?_ (by with_reducible assumption)))); obtain ⟨kcBp, kfBp, kaBp, kgBp, klBp⟩ := kBp.rules; go_simp; exact rfl); (try simp only [Act.put, List.setIfInBounds_toArray, List.set_cons_zero, List.set_cons_succ])) | ((refine wpGo_skip rfl rfl ?_); (try simp only [Act.put, List.setIfInBounds_toArray, List.set_cons_zero, List.set_cons_succ])))
  refine wpGo_eff rfl (fun K hK => ?_)
  go_simp
  refine (mul_any a b _ (HA.out.below (by repeat (first | (with_reducible exact Below.refl _ _) | (with_reducible refine balloc ?_ _) | (with_reducible refine Below.drew ?_) | (with_reducible refine bdrewN ?_ _) | ((with_reducible refine bset ?_ ?_ _); rotate_left; focus (first | (with_reducible exact Nat.le_refl _) | (simp; done) | (simp; omega) | omega)) | (with_reducible refine bstep (by with_reducible assumption) ?_)))) (HB.out.below (by repeat (first | (with_reducible exact Below.refl _ _) | (with_reducible refine balloc ?_ _) | (with_reducible refine Below.drew ?_) | (with_reducible refine bdrewN ?_ _) | ((with_reducible refine bset ?_ ?_ _); rotate_left; focus (first | (with_reducible exact Nat.le_refl _) | (simp; done) | (simp; omega) | omega)) | (with_reducible refine bstep (by with_reducible assumption) ?_)))) (by omega) (by omega)).mono ?_
  rintro e w1 ⟨d, rfl, do1, dl1, hb1⟩
  have HD := Lib.hid do1
  have HL := Lib.hid dl1
  have hd4 : d.n ≤ 4000 := by have h := do1.le dl1 HPB.out; omega
  clear do1 dl1
  refine hK.out _ _ (by repeat (first | (with_reducible exact Below.refl _ _) | (with_reducible refine balloc ?_ _) | (with_reducible refine Below.drew ?_) | (with_reducible refine bdrewN ?_ _) | ((with_reducible refine bset ?_ ?_ _); rotate_left; focus (first | (with_reducible exact Nat.le_refl _) | (simp; done) | (simp; omega) | omega)) | (with_reducible refine bstep (by with_reducible assumption) ?_))) (fun hS1 => ?_)
  clear hK K
  refine wpGo_eff rfl (fun K hK => ?_)
  go_simp
  refine (bnew_any d _ HD.out hd4).mono ?_
  rintro e w2 ⟨d2, rfl, do2, dl2, df2, hb2⟩
  have HD2 := Lib.hid do2
  have HL2 := Lib.hid dl2
  have HF2 := Lib.hid df2
  clear do2 dl2 df2
  refine hK.out _ _ (by repeat (first | (with_reducible exact Below.refl _ _) | (with_reducible refine balloc ?_ _) | (with_reducible refine Below.drew ?_) | (with_reducible refine bdrewN ?_ _) | ((with_reducible refine bset ?_ ?_ _); rotate_left; focus (first | (with_reducible exact Nat.le_refl _) | (simp; done) | (simp; omega) | omega)) | (with_reducible refine bstep (by with_reducible assumption) ?_))) (fun hS2 => ?_)
  clear hK K
  refine wpGo_nil ?_
  simp only [List.drop_succ_cons, List.drop_zero]
  have kO2 : Bk w2 (w.heap.size + 1 + 1) 143 #[.bool false, .slice none 0 0] := (by repeat (first | (with_reducible assumption) | ((with_reducible refine Bk.new _ _ _ ?_); first | (with_reducible rfl) | (simp; done)) | (with_reducible refine Bk.alloc ?_ _) | (with_reducible refine Bk.drew ?_) | (with_reducible refine Bk.drewN ?_ _) | ((with_reducible refine Bk.far ?_ ?_ _); rotate_left; focus (first | (simp; done) | (simp; omega))) | (with_reducible refine Bk.below ?_ (by with_reducible assumption)))); obtain ⟨kcO2, kfO2, kaO2, kgO2, klO2⟩ := kO2.rules
  have hB2 : Below w.heap.size w w2 := (by repeat (first | (with_reducible exact Below.refl _ _) | (with_reducible refine balloc ?_ _) | (with_reducible refine Below.drew ?_) | (with_reducible refine bdrewN ?_ _) | ((with_reducible refine bset ?_ ?_ _); rotate_left; focus (first | (with_reducible exact Nat.le_refl _) | (simp; done) | (simp; omega) | omega)) | (with_reducible refine bstep (by with_reducible assumption) ?_)))
  have hsz : w.heap.size + 1 + 1 < w1.heap.size := by have h := hb1.size; simp at h; omega
  have hs1 := (HD2.out.far HF2.out (p := ⟨w.heap.size + 1 + 1, 0, none⟩) hsz (.bool false)).far HF2.out (p := ⟨w.heap.size + 1 + 1, 1, none⟩) hsz (.slice d2.A d2.n d2.c)
  have HS1 := Lib.hid hs1
  clear hs1
  go_wp2
  refine bodyPost_ret (v := .agg #[.bool false, .slice d2.A d2.n d2.c]) ?_ rfl ⟨d2, rfl, HS1.out, by rw [HL2.out, HL.out, val_dig], HF2.out.mono (by omega), (by repeat (first | (with_reducible exact Below.refl _ _) | (with_reducible refine balloc ?_ _) | (with_reducible refine Below.drew ?_) | (with_reducible refine bdrewN ?_ _) | ((with_reducible refine bset ?_ ?_ _); rotate_left; focus (first | (with_reducible exact Nat.le_refl _) | (simp; done) | (simp; omega) | omega)) | (with_reducible refine bstep (by with_reducible assumption) ?_)))⟩
  simp [results, Try.results135, go_sem, kcO2]
set_option maxHeartbeats 1600000 in
theorem sign_any (a : Dg) (w : World) (ha : a.ok w) (hna : a.n ≤ 4000) (h0 : valD a.l ≠ 0) :
    Calls Try.prog 141 #[.agg #[.bool false, .slice a.A a.n a.c]] w fun e w' => e = .returned (.int .i64 1) ∧ Below w.heap.size w w' := by
  have HA := Lib.hid ha
  have HT := Lib.hid (dig_top h0).1
  clear ha h0
  go_enter Try.func141, Try.ntmps141
  have k0 : Bk (w.alloc (.cells #[.bool false, .slice a.A a.n a.c] 143)) w.heap.size 143 #[.bool false, .slice a.A a.n a.c] := Bk.new _ _ _ rfl
  obtain ⟨kc0, kf0, ka0, kg0, kl0⟩ := k0.rules
  go_wp2_with fail
  refine (bnew_any a _ (HA.out.below (by repeat (first | (with_reducible exact Below.refl _ _) | (with_reducible refine balloc ?_ _) | (with_reducible refine Below.drew ?_) | (with_reducible refine bdrewN ?_ _) | ((with_reducible refine bset ?_ ?_ _); rotate_left; focus (first | (with_reducible exact Nat.le_refl _) | (simp; done) | (simp; omega) | omega)) | (with_reducible refine bstep (by with_reducible assumption) ?_)))) hna).mono ?_
  rintro e w1 ⟨d, rfl, do1, dl1, df1, hb1⟩
  have hdn : ¬ (d.n = 0) := by
    intro h
    have h2 := do1.ln
    rw [h, dl1] at h2
    exact HT.out (List.eq_nil_of_length_eq_zero h2)
  clear kc0 kf0 ka0 kg0 do1 dl1 df1
  go_wp2
  go_ret
  exact ⟨rfl, (by repeat (first | (with_reducible exact Below.refl _ _) | (with_reducible refine balloc ?_ _) | (with_reducible refine Below.drew ?_) | (with_reducible refine bdrewN ?_ _) | ((with_reducible refine bset ?_ ?_ _); rotate_left; focus (first | (with_reducible exact Nat.le_refl _) | (simp; done) | (simp; omega) | omega)) | (with_reducible refine bstep (by with_reducible assumption) ?_)))⟩
end Go.Proofs.Ytnefnnhnjmmebaa

namespace Go.Proofs.Ytnefnnhnjmmebaa
open Go.RowKit
set_option linter.unusedSimpArgs false
set_option linter.unusedVariables false

/-- A quotient is handed back, and no error. -/
def RetIE (n : Nat) (w : World) (e : Ending) (w' : World) : Prop := ∃ d : Dg, e = .returned (.tuple #[.agg #[.bool false, .slice d.A d.n d.c], .int .i64 0]) ∧ d.ok w' ∧ d.l = dig n ∧ Frs w.heap.size d ∧ Below w.heap.size w w'
set_option maxHeartbeats 3200000 in
theorem idivround_any (a b : Dg) (w : World) (ha : a.ok w) (hb : b.ok w) (hna : a.n ≤ 100) (hnb : b.n ≤ 100) (h0 : valD b.l ≠ 0) :
    Calls Try.prog 134 #[.agg #[.bool false, .slice a.A a.n a.c], .agg #[.bool false, .slice b.A b.n b.c]] w (RetIE ((valD a.l + valD a.l + valD b.l) / (valD b.l + valD b.l)) w) := by
  have HA := Lib.hid ha
  have HB := Lib.hid hb
  obtain ⟨X, HX⟩ : ∃ X, Hid (valD a.l = X) := ⟨_, rfl⟩
  obtain ⟨Z, HZ⟩ : ∃ X, Hid (valD b.l = X) := ⟨_, rfl⟩
  have hx : X < 4294967296 ^ 100 := by rw [← HX.out]; exact Nat.lt_of_lt_of_le (val_lt ha.dg) (Nat.pow_le_pow_right (by decide) (by rw [ha.ln]; exact hna))
  have hz : Z < 4294967296 ^ 100 := by rw [← HZ.out]; exact Nat.lt_of_lt_of_le (val_lt hb.dg) (Nat.pow_le_pow_right (by decide) (by rw [hb.ln]; exact hnb))
  have hp : 4294967296 ^ 100 * 4294967296 = 4294967296 ^ 101 := (Nat.pow_succ ..).symm
  have HB1 : Hid (X + X < 4294967296 ^ 101 ∧ X + X + Z < 4294967296 ^ 101 ∧ Z + Z < 4294967296 ^ 101) := by
    unfold Hid
    rw [← hp]
    generalize 4294967296 ^ 100 = p at hx hz
    omega
  have HZ0 : Hid (valD b.l ≠ 0) := h0
  have HZ1 : Hid (Z + Z ≠ 0) := by unfold Hid; rw [HZ.out] at h0; omega
  rw [HX.out, HZ.out]
  clear ha hb hx hz hp h0
  go_enter Try.func134, Try.ntmps134
  have k0 : Bk (((w.alloc (.cells #[.bool false, .slice a.A a.n a.c] 143)).alloc (.cells #[.bool false, .slice b.A b.n b.c] 143)).alloc (.cells #[.bool false, .slice none 0 0] 143)) (w.heap.size + 1) 143 #[.bool false, .slice b.A b.n b.c] := (by repeat (first | (with_reducible assumption) | ((with_reducible refine Bk.new _ _ _ ?_); first | (with_reducible rfl) | (simp; done)) | (with_reducible refine Bk.alloc ?_ _) | (with_reducible refine Bk.drew ?_) | (with_reducible refine Bk.drewN ?_ _) | ((with_reducible refine Bk.far ?_ ?_ _); rotate_left; focus (first | (simp; done) | (simp; omega))) | (with_reducible refine Bk.below ?_ (by with_reducible assumption))))
  obtain ⟨kc0, kf0, ka0, kg0, kl0⟩ := k0.rules
  go_wp2_with fail
  refine (sign_any b _ (HB.out.below (by repeat (first | (with_reducible exact Below.refl _ _) | (with_reducible refine balloc ?_ _) | (with_reducible refine Below.drew ?_) | (with_reducible refine bdrewN ?_ _) | ((with_reducible refine bset ?_ ?_ _); rotate_left; focus (first | (with_reducible exact Nat.le_refl _) | (simp; done) | (simp; omega) | omega)) | (with_reducible refine bstep (by with_reducible assumption) ?_)))) (by omega) HZ0.out).mono ?_
  rintro e w1 ⟨rfl, hb1⟩
  clear kc0 kf0 ka0 kg0
  go_wp2_with fail
  refine wp_region_gob 21 [(0, true), (1, true), (2, true), (3, true), (5, true), (6, true), (8, true), (9, true), (10, true), (11, true), (4, false), (7, false), (12, false), (13, false), (14, true), (15, true), (16, true), (17, true), (18, true), (19, true), (20, true)] (by kernel_rfl) (by kernel_rfl) (fun c a d v w h => by cases d <;> exact h) ?_
  repeat (first | (refine wpGo_pure (v := ?_) rfl rfl (fun w' hS => ?_) ?_; rotate_left; (· have kAp : Bk w' (w.heap.size) 143 #[.bool false, .slice a.A a.n a.c] := (by repeat (first | (with_reducible assumption) | ((with_reducible refine Bk.new _ _ _ ?_); first | (with_reducible rfl) | (simp; done)) | (with_reducible refine Bk.alloc ?_ _) | (with_reducible refine Bk.drew ?_) | (with_reducible refine Bk.drewN ?_ _) | ((with_reducible refine Bk.far ?_ ?_ _); rotate_left; focus (first | (simp; done) | (simp; omega))) | (with_reducible refine Bk.below ?_ (by with_reducible assumption)))); obtain ⟨kcAp, kfAp, kaAp, kgAp, klAp⟩ := kAp.rules; have kBp : Bk w' (w.heap.size + 1) 143 #[.bool false, .slice b.A b.n b.c] := (by repeat (first | (with_reducible assumption) | ((with_reducible refine Bk.new _ _ _ ?_); first | (with_reducible rfl) | (simp; done)) | (with_reducible refine Bk.alloc ?_ _) | (with_reducible refine Bk.drew ?_) | (with_reducible refine Bk.drewN ?_ _) | ((with_reducible refine Bk.far ?_ ?_ _); rotate_left; focus (first | (simp; done) | (simp; omega))) | (with_reducible refine Bk.below ?_ (by with_reducible assumption)))); obtain ⟨kcBp, kfBp, kaBp, kgBp, klBp⟩ := kBp.rules; go_simp; exact rfl); (try simp only [Act.put, List.setIfInBounds_toArray, List.set_cons_zero, List.set_cons_succ])) | ((refine wpGo_skip rfl rfl ?_); (try simp only [Act.put, List.setIfInBounds_toArray, List.set_cons_zero, List.set_cons_succ])))
  refine wpGo_eff rfl (fun K hK => ?_)
  go_simp
  refine (add_any a a _ (HA.out.below (by repeat (first | (with_reducible exact Below.refl _ _) | (with_reducible refine balloc ?_ _) | (with_reducible refine Below.drew ?_) | (with_reducible refine bdrewN ?_ _) | ((with_reducible refine bset ?_ ?_ _); rotate_left; focus (first | (with_reducible exact Nat.le_refl _) | (simp; done) | (simp; omega) | omega)) | (with_reducible refine bstep (by with_reducible assumption) ?_)))) (HA.out.below (by repeat (first | (with_reducible exact Below.refl _ _) | (with_reducible refine balloc ?_ _) | (with_reducible refine Below.drew ?_) | (with_reducible refine bdrewN ?_ _) | ((with_reducible refine bset ?_ ?_ _); rotate_left; focus (first | (with_reducible exact Nat.le_refl _) | (simp; done) | (simp; omega) | omega)) | (with_reducible refine bstep (by with_reducible assumption) ?_)))) (by omega) (by omega)).mono ?_
  rintro e w2 ⟨d2, rfl, do2, dl2, hb2⟩
  have HD2 := Lib.hid do2
  have HL2 : Hid (d2.l = dig (X + X)) := by unfold Hid; rw [dl2, HX.out]
  have hd2 : d2.n ≤ 101 := do2.le HL2.out HB1.out.1
  have HV2 : Hid (valD d2.l = X + X) := by unfold Hid; rw [HL2.out, val_dig]
  clear do2 dl2
  refine hK.out _ _ (by repeat (first | (with_reducible exact Below.refl _ _) | (with_reducible refine balloc ?_ _) | (with_reducible refine Below.drew ?_) | (with_reducible refine bdrewN ?_ _) | ((with_reducible refine bset ?_ ?_ _); rotate_left; focus (first | (with_reducible exact Nat.le_refl _) | (simp; done) | (simp; omega) | omega)) | (with_reducible refine bstep (by with_reducible assumption) ?_))) (fun hS2 => ?_)
  clear hK K
  refine wpGo_eff rfl (fun K hK => ?_)
  go_simp
  refine (add_any d2 b _ HD2.out (HB.out.below (by repeat (first | (with_reducible exact Below.refl _ _) | (with_reducible refine balloc ?_ _) | (with_reducible refine Below.drew ?_) | (with_reducible refine bdrewN ?_ _) | ((with_reducible refine bset ?_ ?_ _); rotate_left; focus (first | (with_reducible exact Nat.le_refl _) | (simp; done) | (simp; omega) | omega)) | (with_reducible refine bstep (by with_reducible assumption) ?_)))) (by omega) (by omega)).mono ?_
  rintro e w3 ⟨d3, rfl, do3, dl3, hb3⟩
  have HD3 := Lib.hid do3
  have HL3 : Hid (d3.l = dig (X + X + Z)) := by unfold Hid; rw [dl3, HV2.out, HZ.out]
  have hd3 : d3.n ≤ 101 := do3.le HL3.out HB1.out.2.1
  have HV3 : Hid (valD d3.l = X + X + Z) := by unfold Hid; rw [HL3.out, val_dig]
  clear do3 dl3
  refine hK.out _ _ (by repeat (first | (with_reducible exact Below.refl _ _) | (with_reducible refine balloc ?_ _) | (with_reducible refine Below.drew ?_) | (with_reducible refine bdrewN ?_ _) | ((with_reducible refine bset ?_ ?_ _); rotate_left; focus (first | (with_reducible exact Nat.le_refl _) | (simp; done) | (simp; omega) | omega)) | (with_reducible refine bstep (by with_reducible assumption) ?_))) (fun hS3 => ?_)
  clear hK K
  refine wpGo_eff rfl (fun K hK => ?_)
  go_simp
  refine (add_any b b _ (HB.out.below (by repeat (first | (with_reducible exact Below.refl _ _) | (with_reducible refine balloc ?_ _) | (with_reducible refine Below.drew ?_) | (with_reducible refine bdrewN ?_ _) | ((with_reducible refine bset ?_ ?_ _); rotate_left; focus (first | (with_reducible exact Nat.le_refl _) | (simp; done) | (simp; omega) | omega)) | (with_reducible refine bstep (by with_reducible assumption) ?_)))) (HB.out.below (by repeat (first | (with_reducible exact Below.refl _ _) | (with_reducible refine balloc ?_ _) | (with_reducible refine Below.drew ?_) | (with_reducible refine bdrewN ?_ _) | ((with_reducible refine bset ?_ ?_ _); rotate_left; focus (first | (with_reducible exact Nat.le_refl _) | (simp; done) | (simp; omega) | omega)) | (with_reducible refine bstep (by with_reducible assumption) ?_)))) (by omega) (by omega)).mono ?_
  rintro e w4 ⟨d4, rfl, do4, dl4, hb4⟩
  have HD4 := Lib.hid do4
  have HL4 : Hid (d4.l = dig (Z + Z)) := by unfold Hid; rw [dl4, HZ.out]
  have hd4 : d4.n ≤ 101 := do4.le HL4.out HB1.out.2.2
  have HV4 : Hid (valD d4.l = Z + Z) := by unfold Hid; rw [HL4.out, val_dig]
  clear do4 dl4
  refine hK.out _ _ (by repeat (first | (with_reducible exact Below.refl _ _) | (with_reducible refine balloc ?_ _) | (with_reducible refine Below.drew ?_) | (with_reducible refine bdrewN ?_ _) | ((with_reducible refine bset ?_ ?_ _); rotate_left; focus (first | (with_reducible exact Nat.le_refl _) | (simp; done) | (simp; omega) | omega)) | (with_reducible refine bstep (by with_reducible assumption) ?_))) (fun hS4 => ?_)
  clear hK K
  refine wpGo_eff rfl (fun K hK => ?_)
  go_simp
  refine (divmod_any d3 d4 _ (HD3.out.below hb4) HD4.out (by omega) (by omega) (by rw [HV4.out]; exact HZ1.out)).mono ?_
  rintro e w5 ⟨d5, r5, rfl, do5, dl5, hb5⟩
  have HD5 := Lib.hid do5
  have HL5 : Hid (d5.l = dig ((X + X + Z) / (Z + Z))) := by unfold Hid; rw [dl5, HV3.out, HV4.out]
  have hd5 : d5.n ≤ 101 := do5.le HL5.out (Nat.lt_of_le_of_lt (Nat.div_le_self _ _) HB1.out.2.1)
  clear do5 dl5
  refine hK.out _ _ (by repeat (first | (with_reducible exact Below.refl _ _) | (with_reducible refine balloc ?_ _) | (with_reducible refine Below.drew ?_) | (with_reducible refine bdrewN ?_ _) | ((with_reducible refine bset ?_ ?_ _); rotate_left; focus (first | (with_reducible exact Nat.le_refl _) | (simp; done) | (simp; omega) | omega)) | (with_reducible refine bstep (by with_reducible assumption) ?_))) (fun hS5 => ?_)
  clear hK K
  repeat (first | (refine wpGo_pure (v := ?_) rfl rfl (fun w' hS => ?_) ?_; rotate_left; (· skip; go_simp; exact rfl); (try simp only [Act.put, List.setIfInBounds_toArray, List.set_cons_zero, List.set_cons_succ])) | ((refine wpGo_skip rfl rfl ?_); (try simp only [Act.put, List.setIfInBounds_toArray, List.set_cons_zero, List.set_cons_succ])))
  refine wpGo_nil ?_
  simp only [List.drop_succ_cons, List.drop_zero]
  have kA5 : Bk w5 (w.heap.size) 143 #[.bool false, .slice a.A a.n a.c] := (by repeat (first | (with_reducible assumption) | ((with_reducible refine Bk.new _ _ _ ?_); first | (with_reducible rfl) | (simp; done)) | (with_reducible refine Bk.alloc ?_ _) | (with_reducible refine Bk.drew ?_) | (with_reducible refine Bk.drewN ?_ _) | ((with_reducible refine Bk.far ?_ ?_ _); rotate_left; focus (first | (simp; done) | (simp; omega))) | (with_reducible refine Bk.below ?_ (by with_reducible assumption)))); obtain ⟨kcA5, kfA5, kaA5, kgA5, klA5⟩ := kA5.rules; have kB5 : Bk w5 (w.heap.size + 1) 143 #[.bool false, .slice b.A b.n b.c] := (by repeat (first | (with_reducible assumption) | ((with_reducible refine Bk.new _ _ _ ?_); first | (with_reducible rfl) | (simp; done)) | (with_reducible refine Bk.alloc ?_ _) | (with_reducible refine Bk.drew ?_) | (with_reducible refine Bk.drewN ?_ _) | ((with_reducible refine Bk.far ?_ ?_ _); rotate_left; focus (first | (simp; done) | (simp; omega))) | (with_reducible refine Bk.below ?_ (by with_reducible assumption)))); obtain ⟨kcB5, kfB5, kaB5, kgB5, klB5⟩ := kB5.rules; have kO5 : Bk w5 (w.heap.size + 1 + 1) 143 #[.bool false, .slice none 0 0] := (by repeat (first | (with_reducible assumption) | ((with_reducible refine Bk.new _ _ _ ?_); first | (with_reducible rfl) | (simp; done)) | (with_reducible refine Bk.alloc ?_ _) | (with_reducible refine Bk.drew ?_) | (with_reducible refine Bk.drewN ?_ _) | ((with_reducible refine Bk.far ?_ ?_ _); rotate_left; focus (first | (simp; done) | (simp; omega))) | (with_reducible refine Bk.below ?_ (by with_reducible assumption)))); obtain ⟨kcO5, kfO5, kaO5, kgO5, klO5⟩ := kO5.rules
  have hB5 : Below w.heap.size w w5 := (by repeat (first | (with_reducible exact Below.refl _ _) | (with_reducible refine balloc ?_ _) | (with_reducible refine Below.drew ?_) | (with_reducible refine bdrewN ?_ _) | ((with_reducible refine bset ?_ ?_ _); rotate_left; focus (first | (with_reducible exact Nat.le_refl _) | (simp; done) | (simp; omega) | omega)) | (with_reducible refine bstep (by with_reducible assumption) ?_)))
  go_wp2_with fail
  refine (bnew_any d5 _ HD5.out (by omega)).mono ?_
  rintro e w6 ⟨d6, rfl, do6, dl6, df6, hb6⟩
  have HD6 := Lib.hid do6
  have HL6 : Hid (d6.l = dig ((X + X + Z) / (Z + Z))) := by unfold Hid; rw [dl6, HL5.out, val_dig]
  have HF6 := Lib.hid df6
  clear do6 dl6 df6 kcA5 kfA5 kaA5 kgA5 kcB5 kfB5 kaB5 kgB5 kcO5 kfO5 kaO5 kgO5
  have kO6 : Bk w6 (w.heap.size + 1 + 1) 143 #[.bool false, .slice none 0 0] := (by repeat (first | (with_reducible assumption) | ((with_reducible refine Bk.new _ _ _ ?_); first | (with_reducible rfl) | (simp; done)) | (with_reducible refine Bk.alloc ?_ _) | (with_reducible refine Bk.drew ?_) | (with_reducible refine Bk.drewN ?_ _) | ((with_reducible refine Bk.far ?_ ?_ _); rotate_left; focus (first | (simp; done) | (simp; omega))) | (with_reducible refine Bk.below ?_ (by with_reducible assumption)))); obtain ⟨kcO6, kfO6, kaO6, kgO6, klO6⟩ := kO6.rules
  have hB6 : Below w.heap.size w w6 := bstep hb6 hB5
  have hs1 := (HD6.out.far HF6.out (p := ⟨w.heap.size + 1 + 1, 0, none⟩) klO5 (.bool false)).far HF6.out (p := ⟨w.heap.size + 1 + 1, 1, none⟩) klO5 (.slice d6.A d6.n d6.c)
  have HS1 := Lib.hid hs1
  clear hs1
  go_wp2
  refine bodyPost_ret (v := .tuple #[.agg #[.bool false, .slice d6.A d6.n d6.c], .int .i64 0]) ?_ rfl ⟨d6, rfl, HS1.out, HL6.out, HF6.out.mono (by omega), (by repeat (first | (with_reducible exact Below.refl _ _) | (with_reducible refine balloc ?_ _) | (with_reducible refine Below.drew ?_) | (with_reducible refine bdrewN ?_ _) | ((with_reducible refine bset ?_ ?_ _); rotate_left; focus (first | (with_reducible exact Nat.le_refl _) | (simp; done) | (simp; omega) | omega)) | (with_reducible refine bstep (by with_reducible assumption) ?_)))⟩
  simp [results, Try.results134, go_sem, kcO6]
end Go.Proofs.Ytnefnnhnjmmebaa

namespace Go.Proofs.Ytnefnnhnjmmebaa
open Go.RowKit
set_option linter.unusedSimpArgs false
set_option linter.unusedVariables false

theorem or_zero (x : Int) (h0 : 0 ≤ x) (h1 : x < 4294967296) : bits .or .u64 0 x = x := by
  have h2 : (BitVec.ofInt 64 x).toNat = x.toNat := by
    rw [BitVec.toNat_ofInt, Int.emod_eq_of_lt h0 (by simp; omega)]
  show IntKind.u64.wrap ((BitVec.ofInt 64 0 ||| BitVec.ofInt 64 x).toNat : Int) = x
  rw [BitVec.toNat_or, h2, show (BitVec.ofInt 64 0).toNat = 0 from rfl, Nat.zero_or]
  rw [IntWalk.u64_in _ (by omega)]
  omega
set_option maxHeartbeats 3200000 in
theorem toint_any (a : Dg) (q : Nat) (w : World) (ha : a.ok w) (hl : a.l = dig q) (hq : q < 4294967296) :
    Calls Try.prog 137 #[.agg #[.bool false, .slice a.A a.n a.c]] w fun e w' => e = .returned (.tuple #[.int .i64 (q : Int), .bool true]) ∧ Below w.heap.size w w' := by
  have HA := Lib.hid ha
  have hna : a.n ≤ 1 := ha.le hl (by omega)
  have HV : Hid (valD a.l = q) := by unfold Hid; rw [hl, val_dig]
  clear ha hl
  go_enter Try.func137, Try.ntmps137
  have k0 : Bk (w.alloc (.cells #[.bool false, .slice a.A a.n a.c] 143)) w.heap.size 143 #[.bool false, .slice a.A a.n a.c] := Bk.new _ _ _ rfl
  obtain ⟨kc0, kf0, ka0, kg0, kl0⟩ := k0.rules
  go_wp2_with fail
  refine (bnew_any a _ (HA.out.below (by repeat (first | (with_reducible exact Below.refl _ _) | (with_reducible refine balloc ?_ _) | (with_reducible refine Below.drew ?_) | (with_reducible refine bdrewN ?_ _) | ((with_reducible refine bset ?_ ?_ _); rotate_left; focus (first | (with_reducible exact Nat.le_refl _) | (simp; done) | (simp; omega) | omega)) | (with_reducible refine bstep (by with_reducible assumption) ?_)))) (by omega)).mono ?_
  rintro e w1 ⟨d, rfl, do1, dl1, df1, hb1⟩
  have HD := Lib.hid do1
  have hdl : d.l = dig q := by rw [dl1, HV.out]
  have HDL := Lib.hid hdl
  have hB1 : Below w.heap.size w w1 := (by repeat (first | (with_reducible exact Below.refl _ _) | (with_reducible refine balloc ?_ _) | (with_reducible refine Below.drew ?_) | (with_reducible refine bdrewN ?_ _) | ((with_reducible refine bset ?_ ?_ _); rotate_left; focus (first | (with_reducible exact Nat.le_refl _) | (simp; done) | (simp; omega) | omega)) | (with_reducible refine bstep (by with_reducible assumption) ?_)))
  have hdn : d.n ≤ 1 := do1.le hdl (by omega)
  clear kc0 kf0 ka0 kg0 dl1 do1 df1
  have HT0 : Hid (valT d.l 0 = 0) := rfl
  have HTN : Hid (valT d.l d.n = q) := by unfold Hid; rw [valT_len (by rw [HD.out.ln]; exact Nat.le_refl _), hdl, val_dig]
  clear hdl
  have kO : Bk (w1.alloc (.cells #[.bool false, .slice d.A d.n d.c] 143)) w1.heap.size 143 #[.bool false, .slice d.A d.n d.c] := Bk.new _ _ _ rfl
  have hB2 : Below w.heap.size w (w1.alloc (.cells #[.bool false, .slice d.A d.n d.c] 143)) := (by repeat (first | (with_reducible exact Below.refl _ _) | (with_reducible refine balloc ?_ _) | (with_reducible refine Below.drew ?_) | (with_reducible refine bdrewN ?_ _) | ((with_reducible refine bset ?_ ?_ _); rotate_left; focus (first | (with_reducible exact Nat.le_refl _) | (simp; done) | (simp; omega) | omega)) | (with_reducible refine bstep (by with_reducible assumption) ?_)))
  have HD2 := Lib.hid (HD.out.below (((Below.refl w1.heap.size w1).alloc (Nat.le_refl _) (.cells #[.bool false, .slice d.A d.n d.c] 143))))
  go_wp2_with fail
  generalize (w1.alloc (.cells #[.bool false, .slice d.A d.n d.c] 143)) = w2 at *
  obtain ⟨kc1, kf1, ka1, kg1, kl1⟩ := kO.rules
  go_loopw [5, 6] (fun u i wr => ∃ (k : Nat), k ≤ d.n ∧ i = .int .i64 (k : Int) ∧ u = .int .u64 ((valT d.l k : Nat) : Int) ∧ Hid (w2 = wr)) (fun _ i _ => d.n - (intOf i).toNat)
  case atStart => exact ⟨0, Nat.zero_le _, rfl, rfl, by first | trivial | exact rfl⟩
  case round =>
    obtain ⟨k, hk, rfl, rfl, hw⟩ := hrel
    obtain rfl := hw.out
    clear hw
    by_cases hlt : k < d.n
    · obtain rfl : k = 0 := by omega
      have hn1 : d.n = 1 := by omega
      have hT1 : valT d.l 1 = d.l.getD 0 0 := by simp [valT]
      obtain ⟨g, o, hA, hg, hc⟩ := rdD HD2.out.rd (show 0 < d.l.length by rw [HD.out.ln]; omega)
      obtain ⟨x, Hx⟩ : ∃ x, Hid (d.l.getD 0 0 = x) := ⟨_, rfl⟩
      have hx : x < 4294967296 := by rw [← Hx.out]; exact okD_get HD.out.dg _
      rw [Hx.out] at hc hT1
      rw [Nat.add_zero] at hc
      have HT1 := Lib.hid hT1
      have ho := or_zero (x : Int) (by omega) (by omega)
      rw [HT0.out]
      rw [hn1, hA] at kc1
      have HA2 := Lib.hid hA
      have HN1 := Lib.hid hn1
      clear hT1 hA hn1
      go_wp2
      go_roundw
      case rel => exact ⟨1, by rw [HN1.out]; exact Nat.le_refl _, rfl, by rw [HT1.out], by first | trivial | exact rfl⟩
      case measure => rw [HN1.out]; simp [intOf]
    · obtain rfl : k = d.n := by omega
      rw [HTN.out]
      have hq2 : (q : Int) < 9223372036854775808 := by omega
      go_wp2
      go_ret2
      exact ⟨rfl, hB2⟩
set_option maxHeartbeats 3200000 in
theorem rmuldiv_any (x y : Nat) (w : World) (hx : x < 4611686018427387904) (hy : y < 4611686018427387904) (hy0 : 1 ≤ y) (q : Nat) (Hq : Hid ((x + x + y) / (y + y) = q)) (hq : q < 4294967296) :
    Calls Try.prog 128 #[.int .i64 (x : Int), .int .i64 1, .int .i64 (y : Int)] w fun e w' => e = .returned (.tuple #[.int .i64 (q : Int), .bool true]) ∧ Below w.heap.size w w' := by
  have HF1 : Hid (∀ w, Calls Try.prog 136 #[.int .i64 1] w (RetI 1 w)) := fun w => fromint_any 1 w (by decide)
  have hy1 : ¬ (y = 0) := by omega
  go_enter Try.func128, Try.ntmps128
  go_wp2_with fail
  refine (fromint_any x _ hx).mono ?_
  rintro e w1 ⟨d1, rfl, o1, l1, f1, hb1⟩
  have HD1 := Lib.hid o1
  have HV1 : Hid (valD d1.l = x) := by unfold Hid; rw [l1, val_dig]
  have hn1 : d1.n ≤ 2 := o1.le l1 (by omega)
  clear o1 l1 f1
  go_wp2_with fail
  refine (HF1.out _).mono ?_
  rintro e w2 ⟨d2, rfl, o2, l2, f2, hb2⟩
  have HD2 := Lib.hid o2
  have HV2 : Hid (valD d2.l = 1) := by unfold Hid; rw [l2, val_dig]
  have hn2 : d2.n ≤ 2 := o2.le l2 (by omega)
  clear o2 l2 f2
  go_wp2_with fail
  refine (imul_any d1 d2 _ (HD1.out.below hb2) HD2.out (by omega) (by omega)).mono ?_
  rintro e w3 ⟨d3, rfl, o3, l3, f3, hb3⟩
  have l3 : d3.l = dig x := by rw [l3, HV1.out, HV2.out, Nat.mul_one]
  have HD3 := Lib.hid o3
  have HV3 : Hid (valD d3.l = x) := by unfold Hid; rw [l3, val_dig]
  have hn3 : d3.n ≤ 2 := o3.le l3 (by omega)
  clear o3 l3 f3
  go_wp2_with fail
  refine (fromint_any y _ hy).mono ?_
  rintro e w4 ⟨d4, rfl, o4, l4, f4, hb4⟩
  have HD4 := Lib.hid o4
  have HV4 : Hid (valD d4.l = y) := by unfold Hid; rw [l4, val_dig]
  have hn4 : d4.n ≤ 2 := o4.le l4 (by omega)
  clear o4 l4 f4
  go_wp2_with fail
  refine (idivround_any d3 d4 _ (HD3.out.below hb4) HD4.out (by omega) (by omega) (by rw [HV4.out]; omega)).mono ?_
  rintro e w5 ⟨d5, rfl, o5, l5, f5, hb5⟩
  have l5 : d5.l = dig q := by rw [l5, HV3.out, HV4.out, Hq.out]
  have HD5 := Lib.hid o5
  have HL5 := Lib.hid l5
  clear o5 l5 f5
  have HB5 := Lib.hid (bstep hb5 (bstep hb4 (bstep hb3 (bstep hb2 hb1))))
  have kO : Bk (w5.alloc (.cells #[.bool false, .slice d5.A d5.n d5.c] 143)) w5.heap.size 143 #[.bool false, .slice d5.A d5.n d5.c] := Bk.new _ _ _ rfl
  obtain ⟨kc1, kf1, ka1, kg1, kl1⟩ := kO.rules
  have hbo : Below w5.heap.size w5 (w5.alloc (.cells #[.bool false, .slice d5.A d5.n d5.c] 143)) := (Below.refl w5.heap.size w5).alloc (Nat.le_refl _) _
  go_wp2_with fail
  refine (toint_any d5 q _ (HD5.out.below hbo) HL5.out hq).mono ?_
  rintro e w6 ⟨rfl, hb6⟩
  go_wp2
  go_ret2
  exact ⟨rfl, bstep hb6 (bstep hbo HB5.out)⟩
set_option maxHeartbeats 1600000 in
theorem rdivround_nat (x y : Nat) (w : World) (hx : x < 4611686018427387904) (hy : y < 4611686018427387904) (hy0 : 1 ≤ y) (q : Nat) (Hq : Hid ((x + x + y) / (y + y) = q)) (hq : q < 4294967296) :
    Calls Try.prog 115 #[.int .i64 (x : Int), .int .i64 (y : Int)] w fun e w' => e = .returned (.int .i64 (q : Int)) ∧ Below w.heap.size w w' := by
  go_enter Try.func115, Try.ntmps115
  go_wp2_with fail
  refine (rmuldiv_any x y _ hx hy hy0 q Hq hq).mono ?_
  rintro e w1 ⟨rfl, hb1⟩
  go_wp2
  go_ret
  exact ⟨rfl, hb1⟩
theorem rdivround_q (x y : Int) (w : World) (hx0 : 0 ≤ x) (hx : x < 4611686018427387904) (hy : y < 4611686018427387904) (hy0 : 1 ≤ y) (q : Int) (Hq : Hid (rndP x y = q)) (hq : q < 4294967296) :
    Calls Try.prog 115 #[.int .i64 x, .int .i64 y] w fun e w' => e = .returned (.int .i64 q) ∧ Below w.heap.size w w' := by
  obtain ⟨a, rfl⟩ : ∃ a : Nat, x = a := ⟨x.toNat, by omega⟩
  obtain ⟨b, rfl⟩ : ∃ b : Nat, y = b := ⟨y.toNat, by omega⟩
  have h : ((((a + a + b) / (b + b) : Nat)) : Int) = q := by
    rw [← Hq.out]; unfold rndP
    rw [Int.natCast_ediv]
    congr 1 <;> omega
  rw [← h] at hq ⊢
  exact rdivround_nat a b w (by omega) (by omega) (by omega) _ rfl (by omega)
end Go.Proofs.Ytnefnnhnjmmebaa
