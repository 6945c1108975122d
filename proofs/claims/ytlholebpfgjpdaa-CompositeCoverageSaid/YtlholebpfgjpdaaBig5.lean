/-
  The walks of grisailleref01.BitLen and Shift.
-/
import Derived.Test.YtlholebpfgjpdaaBig4
import Derived.IntWalk
namespace Go.Proofs.Ytlholebpfgjpdaa
open Go.RowKit
set_option linter.unusedSimpArgs false
set_option linter.unusedVariables false

theorem half_step {x y j : Nat} (h : y = x / 2 ^ j) : y / 2 = x / 2 ^ (j + 1) := by rw [h, Nat.div_div_eq_div_mul, Nat.pow_succ]
theorem half_pos {x y j : Nat} (h : y = x / 2 ^ j) (hx : x < 4294967296) (hy : 0 < y) : j < 32 := by
  have h1 : 2 ^ j ≤ x := by
    rw [h] at hy
    exact (Nat.div_pos_iff.1 hy).2
  have h2 : 2 ^ j < 2 ^ 32 := Nat.lt_of_le_of_lt h1 hx
  exact (Nat.pow_lt_pow_iff_right (by decide)).1 h2
set_option maxHeartbeats 3200000 in
theorem bitlen_any (a : Dg) (w : World) (ha : a.ok w) (hna : a.n ≤ 1000) (m : Nat) (hm : Hid ((dig (valD a.l)).length = m + 1)) :
    Calls Try.prog 88 #[.slice a.A a.n a.c] w (fun e w' => ∃ j : Nat, 1 ≤ j ∧ j ≤ 32 ∧ e = .returned (.int .i64 (32 * (m : Int) + j)) ∧ Below w.heap.size w w') := by
  have HA := Lib.hid ha
  have hm4 : m ≤ 1000 := by have h := dig_val_len ha.dg; rw [hm.out, ha.ln] at h; omega
  have hv0 : valD a.l ≠ 0 := fun h => by have := hm.out; rw [h, dig_zero] at this; simp at this
  have HTOP := Lib.hid (dig_top hv0).2
  clear ha hv0
  go_enter Try.func88, Try.ntmps88
  go_wp2_with fail
  refine (norm_any a _ HA.out (by omega)).mono ?_
  rintro e w1 ⟨d, rfl, ho, hl, hb1⟩
  have hdn : d.n = m + 1 := by rw [← ho.ln, hl, hm.out]
  obtain ⟨x, Hx⟩ : ∃ x, Hid (d.l.getD m 0 = x) := ⟨_, rfl⟩
  have hx : x < 4294967296 := by rw [← Hx.out]; exact okD_get ho.dg m
  have hx0 : 0 < x := by
    rw [← Hx.out, hl]
    have := HTOP.out
    rw [hm.out] at this
    exact Nat.pos_of_ne_zero this
  obtain ⟨g, o, hA, hg, hc⟩ := rdD ho.rd (show m < d.l.length by rw [ho.ln]; omega)
  rw [Hx.out] at hc
  have HAA := Lib.hid hA
  rw [HAA.out, hdn]
  have hn0 : (((m + 1 : Nat) : Int) == 0) = false := by simp; omega
  have i0 : (0 : Int) ≤ (m : Int) := by omega
  have e1 : ((m + 1 : Nat) : Int) - 1 = (m : Int) := by omega
  have e2 : ((m + 1 : Nat) : Int) = (m : Int) + 1 := by omega
  clear hA ho hl hdn HTOP e1 e2 hn0
  go_wp2_with fail
  go_loopw [4, 5] (fun n t wr => ∃ j y : Nat, j ≤ 32 ∧ n = .int .i64 (32 * (m : Int) + j) ∧ t = .int .u32 (y : Int) ∧ Hid (y = x / 2 ^ j) ∧ Hid (w1 = wr)) (fun _ t _ => (intOf t).toNat)
  case atStart => exact ⟨0, x, by omega, by simp, rfl, by unfold Hid; simp, by first | trivial | exact rfl⟩
  case round =>
    obtain ⟨j, y, hj, rfl, rfl, HY, hw⟩ := hrel
    obtain rfl := hw.out
    clear hw
    by_cases hy : 0 < y
    · have hj2 := half_pos HY.out hx hy
      have HY2 : Hid (y / 2 = x / 2 ^ (j + 1)) := half_step HY.out
      have hy2 : y < 4294967296 := by rw [HY.out]; exact Nat.lt_of_le_of_lt (Nat.div_le_self _ _) hx
      go_wp2
      go_roundw
      case rel => exact ⟨j + 1, y / 2, by omega, by first | rfl | (congr 1; done) | (congr 1; omega), by first | rfl | (congr 1; done) | (congr 1; omega), HY2, by first | trivial | exact rfl⟩
      case measure => simp [intOf]; omega
    · obtain rfl : y = 0 := by omega
      have hj1 : 1 ≤ j := by
        rcases Nat.eq_zero_or_pos j with h | h
        · have h2 := HY.out; rw [h] at h2; simp at h2; omega
        · exact h
      go_wp2
      go_ret
      exact ⟨j, hj1, hj, rfl, hb1⟩
set_option maxHeartbeats 1600000 in
theorem shiftup_any (a : Dg) (s : Nat) (w : World) (ha : a.ok w) (hna : a.n ≤ 1000) (hs : s < 32) :
    Calls Try.prog 89 #[.slice a.A a.n a.c, .int .i64 (s : Int)] w (RetD (valD a.l * 2 ^ s) w) := by
  have HA := Lib.hid ha
  clear ha
  have h0 : ¬ ((4096 : Int) < (s : Int)) := by omega
  go_enter Try.func89, Try.ntmps89
  go_wp2_with fail
  refine (up_any a s _ HA.out (by omega) hs).mono ?_
  rintro e w1 ⟨d, rfl, ho, hl, hb1⟩
  have HO := Lib.hid ho
  have HL := Lib.hid hl
  clear ho hl
  go_wp2
  go_ret
  exact ⟨d, rfl, HO.out, HL.out, hb1⟩
/-- Some digits are handed back. -/
def RetA (w : World) (e : Ending) (w' : World) : Prop := ∃ d : Dg, e = .returned (.slice d.A d.n d.c) ∧ d.ok w' ∧ Below w.heap.size w w'
set_option maxHeartbeats 3200000 in
theorem shiftdown_any (a : Dg) (s : Nat) (w : World) (ha : a.ok w) (hna : a.n ≤ 1000) (hs : s < 32) (hs1 : 1 ≤ s) :
    Calls Try.prog 89 #[.slice a.A a.n a.c, .int .i64 (-(s : Int))] w (RetA w) := by
  have HA := Lib.hid ha
  have HLA := Lib.hid ha.ln
  clear ha
  by_cases hz : a.n = 0
  · go_enter Try.func89, Try.ntmps89
    go_wp2
    have kO : Bk (w.alloc (.cells #[] 108)) w.heap.size 108 #[] := Bk.new _ _ _ rfl
    go_ret
    exact ⟨⟨some ⟨w.heap.size, 0, none⟩, 0, 0, []⟩, rfl, ⟨RdL.nil, rfl, okD_nil⟩, (by repeat (first | (with_reducible exact Below.refl _ _) | (with_reducible refine balloc ?_ _) | (with_reducible refine Below.drew ?_) | (with_reducible refine bdrewN ?_ _) | ((with_reducible refine bset ?_ ?_ _); rotate_left; focus (first | (with_reducible exact Nat.le_refl _) | (simp; done) | (simp; omega) | omega)) | (with_reducible refine bstep (by with_reducible assumption) ?_)))⟩
  · have hz1 : 1 ≤ a.n := by omega
    have hs0 : ¬ (s = 0) := by omega
    have hs00 : (s = 0) = False := by simp; omega
    clear hs0
    have q0 : ((s : Int).tdiv 32) = 0 := by rw [Int.tdiv_eq_ediv_of_nonneg (by omega)]; omega
    have q1 : ((s : Int).tmod 32) = (s : Int) := by rw [Int.tmod_eq_emod_of_nonneg (by omega)]; omega
    have hpow : 0 < 2 ^ s := Nat.pow_pos (by decide)
    have q2 : (2 : Int) ^ s = ((2 ^ s : Nat) : Int) := by rw [Int.natCast_pow]; rfl
    obtain ⟨p, Hp⟩ : ∃ d, 2 ^ s = d := ⟨_, rfl⟩
    rw [Hp] at q2 hpow
    clear Hp
    go_enter Try.func89, Try.ntmps89
    go_wp2_with fail
    have kO : Bk (w.alloc (.cells #[] 108)) w.heap.size 108 #[] := Bk.new _ _ _ rfl
    go_loopw [5, 6] (fun u i wr => ∃ (k : Nat) (L : List Nat), k ≤ a.n ∧ i = .int .i64 k ∧ OwnL encD 108 1 wr w.heap.size u L ∧ Hid (L.length = k ∧ okD L) ∧ Below w.heap.size w wr) (fun _ i _ => a.n - (intOf i).toNat)
    case atStart => exact ⟨0, [], Nat.zero_le _, rfl, OwnL.lit (l := []) encD_len kO (by omega) (by decide) rfl, ⟨rfl, okD_nil⟩, (by repeat (first | (with_reducible exact Below.refl _ _) | (with_reducible refine balloc ?_ _) | (with_reducible refine Below.drew ?_) | (with_reducible refine bdrewN ?_ _) | ((with_reducible refine bset ?_ ?_ _); rotate_left; focus (first | (with_reducible exact Nat.le_refl _) | (simp; done) | (simp; omega) | omega)) | (with_reducible refine bstep (by with_reducible assumption) ?_)))⟩
    case round =>
      obtain ⟨k, L, hk, rfl, hu, HL, hbw⟩ := hrel
      by_cases hlt : k < a.n
      · obtain ⟨x, Hx⟩ : ∃ x, Hid (a.l.getD (k + 1) 0 = x) := ⟨_, rfl⟩
        obtain ⟨y, Hy⟩ : ∃ x, Hid (a.l.getD k 0 = x) := ⟨_, rfl⟩
        have hx : x < 4294967296 := by rw [← Hx.out]; exact okD_get HA.out.dg _
        have hy : y < 4294967296 := by rw [← Hy.out]; exact okD_get HA.out.dg _
        have HC1 : Hid (Calls Try.prog 91 #[.slice a.A a.n a.c, .int .i64 ((k : Int) + 1)] wr fun e w' => e = .returned (.int .u64 (x : Int)) ∧ wr = w') := by
          have h := digit_any a (k + 1) wr (HA.out.below hbw) x Hx
          rwa [show ((k + 1 : Nat) : Int) = (k : Int) + 1 by omega] at h
        have hsz := hbw.size
        have hlen : L.length ≤ 4294967296 := by have := HL.out.1; omega
        have hk4 : (k : Int) < 1000 := by omega
        obtain ⟨m, hm⟩ : ∃ m, x * 4294967296 + y = m := ⟨_, rfl⟩
        have hmb : m < 18446744073709551616 := by omega
        have hm2 : (x : Int) * 4294967296 + (y : Int) = (m : Int) := by omega
        have hm3 : IntKind.u64.wrap ((x : Int) * 4294967296) = (x : Int) * 4294967296 := IntWalk.u64_in _ (by omega)
        obtain ⟨D, hD⟩ : ∃ D, m / p = D := ⟨_, rfl⟩
        have hm4 : (m : Int) / (p : Int) = (D : Int) := by rw [← hD, Int.natCast_ediv]
        have hDb : D < 18446744073709551616 := by rw [← hD]; exact Nat.lt_of_le_of_lt (Nat.div_le_self _ _) hmb
        clear hD
        go_wp2_with fail
        refine HC1.out.mono ?_
        rintro e w' ⟨rfl, rfl⟩
        go_wp2_with fail
        refine (digit_any a k _ (HA.out.below hbw) y Hy).mono ?_
        rintro e w' ⟨rfl, rfl⟩
        go_wp2_with (at_builtin; refine wpList_append_one encD_len encD_one 94 Try.infoU32 rfl (by decide) (by decide) Try.underlying94 rfl _ _ rfl w.heap.size _ _ rfl (hu.alloc _) wr.heap.size (D % 4294967296) rfl (Bk.new _ _ _ rfl) (by first | rfl | (simp [encD]; done) | (simp [encD]; omega)) hlen (by simp at hsz ⊢; omega) ?_; intro v5 w5 ho5 hg5 hv5)
        have HL2 : Hid ((L ++ [D % 4294967296]).length = k + 1 ∧ okD (L ++ [D % 4294967296])) := ⟨by rw [List.length_append, HL.out.1]; rfl, okD_snoc HL.out.2 (Nat.mod_lt _ (by decide))⟩
        have hB5 := below_grown (hu.alloc _) hg5 (balloc hbw _) (by first | exact Nat.le_refl _ | omega)
        clear hu hg5 HL
        go_wp2
        go_roundw
        case rel => exact ⟨k + 1, _, by omega, by go_num, ho5, HL2, hB5⟩
        case measure => simp [intOf]; omega
      · obtain ⟨dd, hdv, hdo, hdl⟩ := dg_of_own hu HL.out.2
        have hdn : dd.n ≤ 4000 := by rw [← hdo.ln, hdl, HL.out.1]; omega
        have HDO := Lib.hid hdo
        clear hu hdo hdl
        subst hdv
        go_wp2_with fail
        refine (norm_any dd _ HDO.out hdn).mono ?_
        rintro e w6 ⟨d6, rfl, ho6, hl6, hb6⟩
        have HO6 := Lib.hid ho6
        clear ho6 hl6
        go_wp2
        go_ret
        exact ⟨d6, rfl, HO6.out, bstep hb6 hbw⟩
end Go.Proofs.Ytlholebpfgjpdaa
