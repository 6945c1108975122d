/- MaskOrder: for all masks the law grisaillelaw21.MaskOrder returns true. No conditions. -/
import Derived.Test.YtndablijjkchjaaMkQ
import Derived.Test.YtndablijjkchjaaMk9
import Derived.Test.YtndablijjkchjaaEx21
import Derived.Test.YtndablijjkchjaaOpenM
import Derived.Test.YtndablijjkchjaaList4
namespace Go.Proofs.Ytndablijjkchjaa
open Go.ChangeShapes Go.WideShapes Go.ChangeAt Go.RowKit
set_option linter.unusedSimpArgs false
set_option linter.unusedVariables false

theorem mul_len (l : List Mk) : (mulL l).length ≤ 67108864 := by
  unfold mulL
  cases h : l.all vMk with
  | false => simp
  | true =>
    rw [if_pos rfl]
    have h3 := pix_len (mulG l) (mulR0 l)
    rw [mulR0_cn h] at h3
    have := (area_bd (mulR0 l)).2
    omega
theorem unl_len (a b : Mk) : (unML a b).length ≤ 67108864 := by
  unfold unML
  split
  · have h3 := pix_len (unG a b) (unionR a.r b.r)
    rw [union_cn] at h3
    have := (area_bd (unionR a.r b.r)).2
    omega
  · simp
set_option maxRecDepth 100000 in
set_option maxHeartbeats 6400000 in
theorem walk_MaskOrder (a b : Mk) (w : World) (ha : a.ok w) (hb : b.ok w) :
    Calls Try.prog 7 #[.agg #[.int .i64 a.r.x0, .int .i64 a.r.y0, .int .i64 a.r.x1, .int .i64 a.r.y1, .slice a.A a.n a.c], .agg #[.int .i64 b.r.x0, .int .i64 b.r.y0, .int .i64 b.r.x1, .int .i64 b.r.y1, .slice b.A b.n b.c]] w fun e w' => e = .returned (.bool true) ∧ Below w.heap.size w w' := by
  have HA := Lib.hid ha
  have HB := Lib.hid hb
  clear ha hb
  cases h1 : decide (a.n ≤ 3000) with
  | false =>
    have HSa := Lib.hid h1
    clear h1
    go_enter Try.func7, Try.ntmps7
    go_wp2_with fail
    refine (small_any a.r a.A a.n a.c _ false HSa).mono ?_
    rintro e w1 ⟨rfl, hb1⟩
    go_wp2_with fail
    refine (ex_any _).mono ?_
    rintro e w2 ⟨rfl, hb2⟩
    go_wp2
    go_ret
    exact ⟨rfl, (by repeat (first | (with_reducible exact Below.refl _ _) | (with_reducible refine balloc ?_ _) | (with_reducible refine Below.drew ?_) | (with_reducible refine bdrewN ?_ _) | ((with_reducible refine bset ?_ ?_ _); rotate_left; focus (first | (with_reducible exact Nat.le_refl _) | (simp; done) | (simp; omega) | omega)) | (with_reducible refine bstep (by with_reducible assumption) ?_)))⟩
  | true =>
    have HSa := Lib.hid h1
    cases h2 : decide (b.n ≤ 3000) with
    | false =>
      have HSb := Lib.hid h2
      clear h1 h2
      go_enter Try.func7, Try.ntmps7
      go_wp2_with fail
      refine (small_any a.r a.A a.n a.c _ true HSa).mono ?_
      rintro e w1 ⟨rfl, hb1⟩
      have kB1 : Bk w1 (w.heap.size + 1) 29 #[.int .i64 b.r.x0, .int .i64 b.r.y0, .int .i64 b.r.x1, .int .i64 b.r.y1, .slice b.A b.n b.c] := (by repeat (first | (with_reducible assumption) | ((with_reducible refine Bk.new _ _ _ ?_); first | (with_reducible rfl) | (simp; done)) | (with_reducible refine Bk.alloc ?_ _) | (with_reducible refine Bk.drew ?_) | (with_reducible refine Bk.drewN ?_ _) | ((with_reducible refine Bk.far ?_ ?_ _); rotate_left; focus (first | (simp; done) | (simp; omega))) | (with_reducible refine Bk.below ?_ (by with_reducible assumption)))); obtain ⟨kcB1, kfB1, kaB1, kgB1, klB1⟩ := kB1.rules
      go_wp2_with fail
      refine (small_any b.r b.A b.n b.c _ false HSb).mono ?_
      rintro e w2 ⟨rfl, hb2⟩
      clear kcB1 kfB1 kaB1 kgB1
      go_wp2_with fail
      refine (ex_any _).mono ?_
      rintro e w3 ⟨rfl, hb3⟩
      go_wp2
      go_ret
      exact ⟨rfl, (by repeat (first | (with_reducible exact Below.refl _ _) | (with_reducible refine balloc ?_ _) | (with_reducible refine Below.drew ?_) | (with_reducible refine bdrewN ?_ _) | ((with_reducible refine bset ?_ ?_ _); rotate_left; focus (first | (with_reducible exact Nat.le_refl _) | (simp; done) | (simp; omega) | omega)) | (with_reducible refine bstep (by with_reducible assumption) ?_)))⟩
    | true =>
      have HSb := Lib.hid h2
      have l1 := of_decide_eq_true h1
      have l2 := of_decide_eq_true h2
      clear h1 h2
      obtain ⟨U, HU⟩ : ∃ u, Hid (unionR a.r b.r = u) := ⟨_, rfl⟩
      have HU' : Hid (unionR ⟨a.r.x0, a.r.y0, a.r.x1, a.r.y1⟩ ⟨b.r.x0, b.r.y0, b.r.x1, b.r.y1⟩ = U) := HU.out
      obtain ⟨ar, Har⟩ : ∃ u, Hid (areaR U = u) := ⟨_, rfl⟩
      have HAr := Lib.hid (rarea_any U.x0 U.y0 U.x1 U.y1)
      have HArv : Hid (areaR ⟨U.x0, U.y0, U.x1, U.y1⟩ = ar) := Har.out
      rw [HArv.out] at HAr
      cases c1 : decide ((6000 : Int) < ar) with
      | true =>
        go_enter Try.func7, Try.ntmps7
        go_wp2_with fail
        refine (small_any a.r a.A a.n a.c _ true HSa).mono ?_
        rintro e w1 ⟨rfl, hb1⟩
        have kB1 : Bk w1 (w.heap.size + 1) 29 #[.int .i64 b.r.x0, .int .i64 b.r.y0, .int .i64 b.r.x1, .int .i64 b.r.y1, .slice b.A b.n b.c] := (by repeat (first | (with_reducible assumption) | ((with_reducible refine Bk.new _ _ _ ?_); first | (with_reducible rfl) | (simp; done)) | (with_reducible refine Bk.alloc ?_ _) | (with_reducible refine Bk.drew ?_) | (with_reducible refine Bk.drewN ?_ _) | ((with_reducible refine Bk.far ?_ ?_ _); rotate_left; focus (first | (simp; done) | (simp; omega))) | (with_reducible refine Bk.below ?_ (by with_reducible assumption)))); obtain ⟨kcB1, kfB1, kaB1, kgB1, klB1⟩ := kB1.rules
        go_wp2_with fail
        refine (small_any b.r b.A b.n b.c _ true HSb).mono ?_
        rintro e w2 ⟨rfl, hb2⟩
        clear kcB1 kfB1 kaB1 kgB1
        have kA2 : Bk w2 (w.heap.size) 29 #[.int .i64 a.r.x0, .int .i64 a.r.y0, .int .i64 a.r.x1, .int .i64 a.r.y1, .slice a.A a.n a.c] := (by repeat (first | (with_reducible assumption) | ((with_reducible refine Bk.new _ _ _ ?_); first | (with_reducible rfl) | (simp; done)) | (with_reducible refine Bk.alloc ?_ _) | (with_reducible refine Bk.drew ?_) | (with_reducible refine Bk.drewN ?_ _) | ((with_reducible refine Bk.far ?_ ?_ _); rotate_left; focus (first | (simp; done) | (simp; omega))) | (with_reducible refine Bk.below ?_ (by with_reducible assumption)))); obtain ⟨kcA2, kfA2, kaA2, kgA2, klA2⟩ := kA2.rules; have kB2 : Bk w2 (w.heap.size + 1) 29 #[.int .i64 b.r.x0, .int .i64 b.r.y0, .int .i64 b.r.x1, .int .i64 b.r.y1, .slice b.A b.n b.c] := (by repeat (first | (with_reducible assumption) | ((with_reducible refine Bk.new _ _ _ ?_); first | (with_reducible rfl) | (simp; done)) | (with_reducible refine Bk.alloc ?_ _) | (with_reducible refine Bk.drew ?_) | (with_reducible refine Bk.drewN ?_ _) | ((with_reducible refine Bk.far ?_ ?_ _); rotate_left; focus (first | (simp; done) | (simp; omega))) | (with_reducible refine Bk.below ?_ (by with_reducible assumption)))); obtain ⟨kcB2, kfB2, kaB2, kgB2, klB2⟩ := kB2.rules
        go_wp2_with fail
        refine (runion_q _ _ _ _ _ _ _ _ U HU' _).mono ?_
        rintro e w3 ⟨rfl, hb3⟩
        clear kcA2 kfA2 kaA2 kgA2 kcB2 kfB2 kaB2 kgB2
        have kA3 : Bk w3 (w.heap.size) 29 #[.int .i64 a.r.x0, .int .i64 a.r.y0, .int .i64 a.r.x1, .int .i64 a.r.y1, .slice a.A a.n a.c] := (by repeat (first | (with_reducible assumption) | ((with_reducible refine Bk.new _ _ _ ?_); first | (with_reducible rfl) | (simp; done)) | (with_reducible refine Bk.alloc ?_ _) | (with_reducible refine Bk.drew ?_) | (with_reducible refine Bk.drewN ?_ _) | ((with_reducible refine Bk.far ?_ ?_ _); rotate_left; focus (first | (simp; done) | (simp; omega))) | (with_reducible refine Bk.below ?_ (by with_reducible assumption)))); obtain ⟨kcA3, kfA3, kaA3, kgA3, klA3⟩ := kA3.rules; have kB3 : Bk w3 (w.heap.size + 1) 29 #[.int .i64 b.r.x0, .int .i64 b.r.y0, .int .i64 b.r.x1, .int .i64 b.r.y1, .slice b.A b.n b.c] := (by repeat (first | (with_reducible assumption) | ((with_reducible refine Bk.new _ _ _ ?_); first | (with_reducible rfl) | (simp; done)) | (with_reducible refine Bk.alloc ?_ _) | (with_reducible refine Bk.drew ?_) | (with_reducible refine Bk.drewN ?_ _) | ((with_reducible refine Bk.far ?_ ?_ _); rotate_left; focus (first | (simp; done) | (simp; omega))) | (with_reducible refine Bk.below ?_ (by with_reducible assumption)))); obtain ⟨kcB3, kfB3, kaB3, kgB3, klB3⟩ := kB3.rules
        go_wp2_with fail
        refine (HAr.out _).mono ?_
        rintro e w4 ⟨rfl, hb4⟩
        clear kcA3 kfA3 kaA3 kgA3 kcB3 kfB3 kaB3 kgB3
        have kA4 : Bk w4 (w.heap.size) 29 #[.int .i64 a.r.x0, .int .i64 a.r.y0, .int .i64 a.r.x1, .int .i64 a.r.y1, .slice a.A a.n a.c] := (by repeat (first | (with_reducible assumption) | ((with_reducible refine Bk.new _ _ _ ?_); first | (with_reducible rfl) | (simp; done)) | (with_reducible refine Bk.alloc ?_ _) | (with_reducible refine Bk.drew ?_) | (with_reducible refine Bk.drewN ?_ _) | ((with_reducible refine Bk.far ?_ ?_ _); rotate_left; focus (first | (simp; done) | (simp; omega))) | (with_reducible refine Bk.below ?_ (by with_reducible assumption)))); obtain ⟨kcA4, kfA4, kaA4, kgA4, klA4⟩ := kA4.rules; have kB4 : Bk w4 (w.heap.size + 1) 29 #[.int .i64 b.r.x0, .int .i64 b.r.y0, .int .i64 b.r.x1, .int .i64 b.r.y1, .slice b.A b.n b.c] := (by repeat (first | (with_reducible assumption) | ((with_reducible refine Bk.new _ _ _ ?_); first | (with_reducible rfl) | (simp; done)) | (with_reducible refine Bk.alloc ?_ _) | (with_reducible refine Bk.drew ?_) | (with_reducible refine Bk.drewN ?_ _) | ((with_reducible refine Bk.far ?_ ?_ _); rotate_left; focus (first | (simp; done) | (simp; omega))) | (with_reducible refine Bk.below ?_ (by with_reducible assumption)))); obtain ⟨kcB4, kfB4, kaB4, kgB4, klB4⟩ := kB4.rules
        go_wp2_with fail
        refine (ex_any _).mono ?_
        rintro e w5 ⟨rfl, hb5⟩
        clear kcA4 kfA4 kaA4 kgA4 kcB4 kfB4 kaB4 kgB4
        go_wp2
        go_ret
        exact ⟨rfl, (by repeat (first | (with_reducible exact Below.refl _ _) | (with_reducible refine balloc ?_ _) | (with_reducible refine Below.drew ?_) | (with_reducible refine bdrewN ?_ _) | ((with_reducible refine bset ?_ ?_ _); rotate_left; focus (first | (with_reducible exact Nat.le_refl _) | (simp; done) | (simp; omega) | omega)) | (with_reducible refine bstep (by with_reducible assumption) ?_)))⟩
      | false =>
        have l3 := of_decide_eq_false c1
        obtain ⟨R0, HR0⟩ : ∃ u, Hid (mulR [a, b] = u) := ⟨_, rfl⟩
        obtain ⟨L0, HL0⟩ : ∃ u, Hid (mulL [a, b] = u) := ⟨_, rfl⟩
        obtain ⟨R1, HR1⟩ : ∃ u, Hid (unMR a b = u) := ⟨_, rfl⟩
        obtain ⟨L1, HL1⟩ : ∃ u, Hid (unML a b = u) := ⟨_, rfl⟩
        obtain ⟨n0, Hn0⟩ : ∃ u, Hid (L0.length = u) := ⟨_, rfl⟩
        obtain ⟨n1, Hn1⟩ : ∃ u, Hid (L1.length = u) := ⟨_, rfl⟩
        have hn0 : n0 ≤ 67108864 := by rw [← Hn0.out, ← HL0.out]; exact mul_len _
        have hn1 : n1 ≤ 67108864 := by rw [← Hn1.out, ← HL1.out]; exact unl_len a b
        have m1 : mulR [b, a] = R0 := by rw [← HR0.out]; exact mulR_comm b a
        have m2 : mulL [b, a] = L0 := by rw [← HL0.out]; exact mulL_comm b a
        have u1 : unMR b a = R1 := by rw [← HR1.out]; exact unMR_comm b a
        have u2 : unML b a = L1 := by rw [← HL1.out]; exact unML_comm b a
        cases hv : unB a b with
        | true =>
          have e1 : mulE [a, b] = 0 := by rw [mulE_two, hv]; rfl
          have e2 : mulE [b, a] = 0 := by rw [mulE_comm]; exact e1
          have harU : areaR (unionR a.r b.r) ≤ 65536 := by rw [HU.out, Har.out]; omega
          have e3 : unME a b = 0 := (un_form hv harU).2.2
          have e4 : unME b a = 0 := by rw [unME_comm]; exact e3
          have e5 : U = R1 := by rw [← HR1.out, (un_form hv harU).1]; exact HU.out.symm
          have hva : vMk a = true := by have h := hv; unfold unB at h; simp at h; exact h.1
          have HVM : Hid (mkValid R0 L0 = true) := by unfold Hid; rw [← HR0.out, ← HL0.out]; exact mul2_valid hv
          have HVU : Hid (mkValid R1 L1 = true) := by unfold Hid; rw [← HR1.out, ← HL1.out]; exact un_valid hv harU
          have HOM : Hid (∀ x y, atV R0 L0 x y ≤ min (atV a.r a.l x y) (atV b.r b.l x y)) := by
            unfold Hid; rw [← HR0.out, ← HL0.out]; exact order_mul hv HA.out.byte HB.out.byte
          have HOU : Hid (∀ x y, containsB R1 x y = true → max (atV a.r a.l x y) (atV b.r b.l x y) ≤ atV R1 L1 x y) := by
            unfold Hid; intro x y hc
            have hc' : containsB (unionR a.r b.r) x y = true := by rw [HU.out, e5]; exact hc
            rw [← HR1.out, ← HL1.out]
            exact order_un hv harU HA.out.byte HB.out.byte hc'
          have hcn : Hid (canonR R1 = R1) := by unfold Hid; rw [← e5, ← HU.out]; exact union_cn
          have hcq := canon_bd R1
          rw [hcn.out] at hcq
          have HAn : Hid (a.l.length = a.n) := HA.out.ln
          obtain ⟨I0, HI0⟩ : ∃ u, Hid (a.l.map invF = u) := ⟨_, rfl⟩
          have HnI : Hid (I0.length = a.n) := by unfold Hid; rw [← HI0.out, List.length_map]; exact HA.out.ln
          have HbI : Hid (bytesB I0) := by unfold Hid; rw [← HI0.out]; exact inv_bytes HA.out.byte
          have HI : Hid (∀ (W : World), a.ok W → Calls Try.prog 31 #[.agg #[.int .i64 a.r.x0, .int .i64 a.r.y0, .int .i64 a.r.x1, .int .i64 a.r.y1, .slice a.A a.n a.c]] W (RetME a.r I0 0 W)) := fun W h => by
            have := minvert_any a W h (by omega)
            rw [show mpR a = a.r by unfold mpR; rw [hva]; rfl, show mpL invF a = I0 by unfold mpL; rw [hva]; exact HI0.out, show mpE a = 0 by unfold mpE; rw [hva]; rfl] at this
            exact this
          have HI2 : Hid (∀ (A : Option Addr) (c : Nat) (W : World), Mk.ok ⟨a.r, A, a.n, c, I0⟩ W → Calls Try.prog 31 #[.agg #[.int .i64 a.r.x0, .int .i64 a.r.y0, .int .i64 a.r.x1, .int .i64 a.r.y1, .slice A a.n c]] W (RetME a.r a.l 0 W)) := fun A c W h => by
            have := minvert_any ⟨a.r, A, a.n, c, I0⟩ W h (by show a.n ≤ _; omega)
            have hv2 : vMk ⟨a.r, A, a.n, c, I0⟩ = true := by unfold vMk; rw [← HI0.out]; exact inv_valid hva
            rw [show mpR ⟨a.r, A, a.n, c, I0⟩ = a.r by unfold mpR; rw [hv2]; rfl, show mpL invF ⟨a.r, A, a.n, c, I0⟩ = a.l by unfold mpL; rw [hv2]; show I0.map invF = _; rw [← HI0.out]; exact inv_inv, show mpE ⟨a.r, A, a.n, c, I0⟩ = 0 by unfold mpE; rw [hv2]; rfl] at this
            exact this
          have HOab : Hid (∀ x ∈ [a, b], x.ok w) := fun x hx => by
            rcases List.mem_cons.1 hx with h | h
            · rw [h]; exact HA.out
            · rw [List.mem_singleton.1 h]; exact HB.out
          have HMab : Hid (∀ (A : Option Addr) (c : Nat) (W : World), RdL encMk 5 W A [a, b] → 2 ≤ c → c ≤ maxLen → (∀ x ∈ [a, b], x.ok W) → Calls Try.prog 17 #[.slice A 2 c] W (RetME R0 L0 0 W)) := fun A c W hr hnc hcm ho => by
            have := mmul_any A 2 c [a, b] W hr rfl (by omega) hnc hcm ho (fun x hx => by
              rcases List.mem_cons.1 hx with h | h
              · rw [h]; omega
              · rw [List.mem_singleton.1 h]; omega)
            rw [HR0.out, HL0.out, e1] at this
            exact this
          have HOba : Hid (∀ x ∈ [b, a], x.ok w) := fun x hx => by
            rcases List.mem_cons.1 hx with h | h
            · rw [h]; exact HB.out
            · rw [List.mem_singleton.1 h]; exact HA.out
          have HMba : Hid (∀ (A : Option Addr) (c : Nat) (W : World), RdL encMk 5 W A [b, a] → 2 ≤ c → c ≤ maxLen → (∀ x ∈ [b, a], x.ok W) → Calls Try.prog 17 #[.slice A 2 c] W (RetME R0 L0 0 W)) := fun A c W hr hnc hcm ho => by
            have := mmul_any A 2 c [b, a] W hr rfl (by omega) hnc hcm ho (fun x hx => by
              rcases List.mem_cons.1 hx with h | h
              · rw [h]; omega
              · rw [List.mem_singleton.1 h]; omega)
            rw [m1, m2, e2] at this
            exact this
          have HUab : Hid (∀ (W : World), a.ok W → b.ok W → Calls Try.prog 23 #[.agg #[.int .i64 a.r.x0, .int .i64 a.r.y0, .int .i64 a.r.x1, .int .i64 a.r.y1, .slice a.A a.n a.c], .agg #[.int .i64 b.r.x0, .int .i64 b.r.y0, .int .i64 b.r.x1, .int .i64 b.r.y1, .slice b.A b.n b.c]] W (RetME R1 L1 0 W)) := fun W h1 h2 => by
            have := munion_any a b W h1 h2 (by omega) (by omega)
            rw [HR1.out, HL1.out, e3] at this
            exact this
          have HUba : Hid (∀ (W : World), b.ok W → a.ok W → Calls Try.prog 23 #[.agg #[.int .i64 b.r.x0, .int .i64 b.r.y0, .int .i64 b.r.x1, .int .i64 b.r.y1, .slice b.A b.n b.c], .agg #[.int .i64 a.r.x0, .int .i64 a.r.y0, .int .i64 a.r.x1, .int .i64 a.r.y1, .slice a.A a.n a.c]] W (RetME R1 L1 0 W)) := fun W h1 h2 => by
            have := munion_any b a W h1 h2 (by omega) (by omega)
            rw [u1, u2, e4] at this
            exact this
          clear e1 e2 e3 e4 m1 m2 u1 u2
          subst e5
          have hneq := fun w => (neq_rect U.x0 U.y0 U.x1 U.y1 U.x0 U.y0 U.x1 U.y1 w).trans (by rw [show eqB ⟨U.x0, U.y0, U.x1, U.y1⟩ ⟨U.x0, U.y0, U.x1, U.y1⟩ = true from eqB_refl U])
          clear hva harU
          clear hv
          go_enter Try.func7, Try.ntmps7
          go_wp2_with fail
          refine (small_any a.r a.A a.n a.c _ true HSa).mono ?_
          rintro e w1 ⟨rfl, hb1⟩
          have kB1 : Bk w1 (w.heap.size + 1) 29 #[.int .i64 b.r.x0, .int .i64 b.r.y0, .int .i64 b.r.x1, .int .i64 b.r.y1, .slice b.A b.n b.c] := (by repeat (first | (with_reducible assumption) | ((with_reducible refine Bk.new _ _ _ ?_); first | (with_reducible rfl) | (simp; done)) | (with_reducible refine Bk.alloc ?_ _) | (with_reducible refine Bk.drew ?_) | (with_reducible refine Bk.drewN ?_ _) | ((with_reducible refine Bk.far ?_ ?_ _); rotate_left; focus (first | (simp; done) | (simp; omega))) | (with_reducible refine Bk.below ?_ (by with_reducible assumption)))); obtain ⟨kcB1, kfB1, kaB1, kgB1, klB1⟩ := kB1.rules
          go_wp2_with fail
          refine (small_any b.r b.A b.n b.c _ true HSb).mono ?_
          rintro e w2 ⟨rfl, hb2⟩
          clear kcB1 kfB1 kaB1 kgB1
          have kA2 : Bk w2 (w.heap.size) 29 #[.int .i64 a.r.x0, .int .i64 a.r.y0, .int .i64 a.r.x1, .int .i64 a.r.y1, .slice a.A a.n a.c] := (by repeat (first | (with_reducible assumption) | ((with_reducible refine Bk.new _ _ _ ?_); first | (with_reducible rfl) | (simp; done)) | (with_reducible refine Bk.alloc ?_ _) | (with_reducible refine Bk.drew ?_) | (with_reducible refine Bk.drewN ?_ _) | ((with_reducible refine Bk.far ?_ ?_ _); rotate_left; focus (first | (simp; done) | (simp; omega))) | (with_reducible refine Bk.below ?_ (by with_reducible assumption)))); obtain ⟨kcA2, kfA2, kaA2, kgA2, klA2⟩ := kA2.rules; have kB2 : Bk w2 (w.heap.size + 1) 29 #[.int .i64 b.r.x0, .int .i64 b.r.y0, .int .i64 b.r.x1, .int .i64 b.r.y1, .slice b.A b.n b.c] := (by repeat (first | (with_reducible assumption) | ((with_reducible refine Bk.new _ _ _ ?_); first | (with_reducible rfl) | (simp; done)) | (with_reducible refine Bk.alloc ?_ _) | (with_reducible refine Bk.drew ?_) | (with_reducible refine Bk.drewN ?_ _) | ((with_reducible refine Bk.far ?_ ?_ _); rotate_left; focus (first | (simp; done) | (simp; omega))) | (with_reducible refine Bk.below ?_ (by with_reducible assumption)))); obtain ⟨kcB2, kfB2, kaB2, kgB2, klB2⟩ := kB2.rules
          go_wp2_with fail
          refine (runion_q _ _ _ _ _ _ _ _ U HU' _).mono ?_
          rintro e w3 ⟨rfl, hb3⟩
          clear kcA2 kfA2 kaA2 kgA2 kcB2 kfB2 kaB2 kgB2
          have kA3 : Bk w3 (w.heap.size) 29 #[.int .i64 a.r.x0, .int .i64 a.r.y0, .int .i64 a.r.x1, .int .i64 a.r.y1, .slice a.A a.n a.c] := (by repeat (first | (with_reducible assumption) | ((with_reducible refine Bk.new _ _ _ ?_); first | (with_reducible rfl) | (simp; done)) | (with_reducible refine Bk.alloc ?_ _) | (with_reducible refine Bk.drew ?_) | (with_reducible refine Bk.drewN ?_ _) | ((with_reducible refine Bk.far ?_ ?_ _); rotate_left; focus (first | (simp; done) | (simp; omega))) | (with_reducible refine Bk.below ?_ (by with_reducible assumption)))); obtain ⟨kcA3, kfA3, kaA3, kgA3, klA3⟩ := kA3.rules; have kB3 : Bk w3 (w.heap.size + 1) 29 #[.int .i64 b.r.x0, .int .i64 b.r.y0, .int .i64 b.r.x1, .int .i64 b.r.y1, .slice b.A b.n b.c] := (by repeat (first | (with_reducible assumption) | ((with_reducible refine Bk.new _ _ _ ?_); first | (with_reducible rfl) | (simp; done)) | (with_reducible refine Bk.alloc ?_ _) | (with_reducible refine Bk.drew ?_) | (with_reducible refine Bk.drewN ?_ _) | ((with_reducible refine Bk.far ?_ ?_ _); rotate_left; focus (first | (simp; done) | (simp; omega))) | (with_reducible refine Bk.below ?_ (by with_reducible assumption)))); obtain ⟨kcB3, kfB3, kaB3, kgB3, klB3⟩ := kB3.rules
          go_wp2_with fail
          refine (HAr.out _).mono ?_
          rintro e w4 ⟨rfl, hb4⟩
          clear kcA3 kfA3 kaA3 kgA3 kcB3 kfB3 kaB3 kgB3
          have kA4 : Bk w4 (w.heap.size) 29 #[.int .i64 a.r.x0, .int .i64 a.r.y0, .int .i64 a.r.x1, .int .i64 a.r.y1, .slice a.A a.n a.c] := (by repeat (first | (with_reducible assumption) | ((with_reducible refine Bk.new _ _ _ ?_); first | (with_reducible rfl) | (simp; done)) | (with_reducible refine Bk.alloc ?_ _) | (with_reducible refine Bk.drew ?_) | (with_reducible refine Bk.drewN ?_ _) | ((with_reducible refine Bk.far ?_ ?_ _); rotate_left; focus (first | (simp; done) | (simp; omega))) | (with_reducible refine Bk.below ?_ (by with_reducible assumption)))); obtain ⟨kcA4, kfA4, kaA4, kgA4, klA4⟩ := kA4.rules; have kB4 : Bk w4 (w.heap.size + 1) 29 #[.int .i64 b.r.x0, .int .i64 b.r.y0, .int .i64 b.r.x1, .int .i64 b.r.y1, .slice b.A b.n b.c] := (by repeat (first | (with_reducible assumption) | ((with_reducible refine Bk.new _ _ _ ?_); first | (with_reducible rfl) | (simp; done)) | (with_reducible refine Bk.alloc ?_ _) | (with_reducible refine Bk.drew ?_) | (with_reducible refine Bk.drewN ?_ _) | ((with_reducible refine Bk.far ?_ ?_ _); rotate_left; focus (first | (simp; done) | (simp; omega))) | (with_reducible refine Bk.below ?_ (by with_reducible assumption)))); obtain ⟨kcB4, kfB4, kaB4, kgB4, klB4⟩ := kB4.rules
          go_wp2_with fail
          refine (HMab.out _ _ _ (rd_of_bk (e := 29) encMk_len (Bk.new _ _ _ (by first | rfl | simp)) rfl) (by omega) (by unfold maxLen; omega) (fun x hx => (HOab.out x hx).below (by repeat (first | (with_reducible exact Below.refl _ _) | (with_reducible refine balloc ?_ _) | (with_reducible refine Below.drew ?_) | (with_reducible refine bdrewN ?_ _) | ((with_reducible refine bset ?_ ?_ _); rotate_left; focus (first | (with_reducible exact Nat.le_refl _) | (simp; done) | (simp; omega) | omega)) | (with_reducible refine bstep (by with_reducible assumption) ?_))))).mono ?_
          rintro e w5 ⟨v5, rfl, ho5, hb5⟩
          clear kcA4 kfA4 kaA4 kgA4 kcB4 kfB4 kaB4 kgB4
          have kA5 : Bk w5 (w.heap.size) 29 #[.int .i64 a.r.x0, .int .i64 a.r.y0, .int .i64 a.r.x1, .int .i64 a.r.y1, .slice a.A a.n a.c] := (by repeat (first | (with_reducible assumption) | ((with_reducible refine Bk.new _ _ _ ?_); first | (with_reducible rfl) | (simp; done)) | (with_reducible refine Bk.alloc ?_ _) | (with_reducible refine Bk.drew ?_) | (with_reducible refine Bk.drewN ?_ _) | ((with_reducible refine Bk.far ?_ ?_ _); rotate_left; focus (first | (simp; done) | (simp; omega))) | (with_reducible refine Bk.below ?_ (by with_reducible assumption)))); obtain ⟨kcA5, kfA5, kaA5, kgA5, klA5⟩ := kA5.rules; have kB5 : Bk w5 (w.heap.size + 1) 29 #[.int .i64 b.r.x0, .int .i64 b.r.y0, .int .i64 b.r.x1, .int .i64 b.r.y1, .slice b.A b.n b.c] := (by repeat (first | (with_reducible assumption) | ((with_reducible refine Bk.new _ _ _ ?_); first | (with_reducible rfl) | (simp; done)) | (with_reducible refine Bk.alloc ?_ _) | (with_reducible refine Bk.drew ?_) | (with_reducible refine Bk.drewN ?_ _) | ((with_reducible refine Bk.far ?_ ?_ _); rotate_left; focus (first | (simp; done) | (simp; omega))) | (with_reducible refine Bk.below ?_ (by with_reducible assumption)))); obtain ⟨kcB5, kfB5, kaB5, kgB5, klB5⟩ := kB5.rules
          obtain ⟨A5, c5, hv5, hr5, _⟩ := ho5.form encB_len
          rw [Hn0.out] at hv5
          subst hv5
          have HR5 := Lib.hid hr5
          clear hr5
          
          skip
          go_wp2_with fail
          refine (HMba.out _ _ _ (rd_of_bk (e := 29) encMk_len (Bk.new _ _ _ (by first | rfl | simp)) rfl) (by omega) (by unfold maxLen; omega) (fun x hx => (HOba.out x hx).below (by repeat (first | (with_reducible exact Below.refl _ _) | (with_reducible refine balloc ?_ _) | (with_reducible refine Below.drew ?_) | (with_reducible refine bdrewN ?_ _) | ((with_reducible refine bset ?_ ?_ _); rotate_left; focus (first | (with_reducible exact Nat.le_refl _) | (simp; done) | (simp; omega) | omega)) | (with_reducible refine bstep (by with_reducible assumption) ?_))))).mono ?_
          rintro e w6 ⟨v6, rfl, ho6, hb6⟩
          clear kcA5 kfA5 kaA5 kgA5 kcB5 kfB5 kaB5 kgB5
          have kA6 : Bk w6 (w.heap.size) 29 #[.int .i64 a.r.x0, .int .i64 a.r.y0, .int .i64 a.r.x1, .int .i64 a.r.y1, .slice a.A a.n a.c] := (by repeat (first | (with_reducible assumption) | ((with_reducible refine Bk.new _ _ _ ?_); first | (with_reducible rfl) | (simp; done)) | (with_reducible refine Bk.alloc ?_ _) | (with_reducible refine Bk.drew ?_) | (with_reducible refine Bk.drewN ?_ _) | ((with_reducible refine Bk.far ?_ ?_ _); rotate_left; focus (first | (simp; done) | (simp; omega))) | (with_reducible refine Bk.below ?_ (by with_reducible assumption)))); obtain ⟨kcA6, kfA6, kaA6, kgA6, klA6⟩ := kA6.rules; have kB6 : Bk w6 (w.heap.size + 1) 29 #[.int .i64 b.r.x0, .int .i64 b.r.y0, .int .i64 b.r.x1, .int .i64 b.r.y1, .slice b.A b.n b.c] := (by repeat (first | (with_reducible assumption) | ((with_reducible refine Bk.new _ _ _ ?_); first | (with_reducible rfl) | (simp; done)) | (with_reducible refine Bk.alloc ?_ _) | (with_reducible refine Bk.drew ?_) | (with_reducible refine Bk.drewN ?_ _) | ((with_reducible refine Bk.far ?_ ?_ _); rotate_left; focus (first | (simp; done) | (simp; omega))) | (with_reducible refine Bk.below ?_ (by with_reducible assumption)))); obtain ⟨kcB6, kfB6, kaB6, kgB6, klB6⟩ := kB6.rules
          obtain ⟨A6, c6, hv6, hr6, _⟩ := ho6.form encB_len
          rw [Hn0.out] at hv6
          subst hv6
          have HR6 := Lib.hid hr6
          clear hr6
          
          skip
          go_wp2_with fail
          refine (HUab.out _ (HA.out.below (by repeat (first | (with_reducible exact Below.refl _ _) | (with_reducible refine balloc ?_ _) | (with_reducible refine Below.drew ?_) | (with_reducible refine bdrewN ?_ _) | ((with_reducible refine bset ?_ ?_ _); rotate_left; focus (first | (with_reducible exact Nat.le_refl _) | (simp; done) | (simp; omega) | omega)) | (with_reducible refine bstep (by with_reducible assumption) ?_)))) (HB.out.below (by repeat (first | (with_reducible exact Below.refl _ _) | (with_reducible refine balloc ?_ _) | (with_reducible refine Below.drew ?_) | (with_reducible refine bdrewN ?_ _) | ((with_reducible refine bset ?_ ?_ _); rotate_left; focus (first | (with_reducible exact Nat.le_refl _) | (simp; done) | (simp; omega) | omega)) | (with_reducible refine bstep (by with_reducible assumption) ?_))))).mono ?_
          rintro e w7 ⟨v7, rfl, ho7, hb7⟩
          clear kcA6 kfA6 kaA6 kgA6 kcB6 kfB6 kaB6 kgB6
          have kA7 : Bk w7 (w.heap.size) 29 #[.int .i64 a.r.x0, .int .i64 a.r.y0, .int .i64 a.r.x1, .int .i64 a.r.y1, .slice a.A a.n a.c] := (by repeat (first | (with_reducible assumption) | ((with_reducible refine Bk.new _ _ _ ?_); first | (with_reducible rfl) | (simp; done)) | (with_reducible refine Bk.alloc ?_ _) | (with_reducible refine Bk.drew ?_) | (with_reducible refine Bk.drewN ?_ _) | ((with_reducible refine Bk.far ?_ ?_ _); rotate_left; focus (first | (simp; done) | (simp; omega))) | (with_reducible refine Bk.below ?_ (by with_reducible assumption)))); obtain ⟨kcA7, kfA7, kaA7, kgA7, klA7⟩ := kA7.rules; have kB7 : Bk w7 (w.heap.size + 1) 29 #[.int .i64 b.r.x0, .int .i64 b.r.y0, .int .i64 b.r.x1, .int .i64 b.r.y1, .slice b.A b.n b.c] := (by repeat (first | (with_reducible assumption) | ((with_reducible refine Bk.new _ _ _ ?_); first | (with_reducible rfl) | (simp; done)) | (with_reducible refine Bk.alloc ?_ _) | (with_reducible refine Bk.drew ?_) | (with_reducible refine Bk.drewN ?_ _) | ((with_reducible refine Bk.far ?_ ?_ _); rotate_left; focus (first | (simp; done) | (simp; omega))) | (with_reducible refine Bk.below ?_ (by with_reducible assumption)))); obtain ⟨kcB7, kfB7, kaB7, kgB7, klB7⟩ := kB7.rules
          obtain ⟨A7, c7, hv7, hr7, _⟩ := ho7.form encB_len
          rw [Hn1.out] at hv7
          subst hv7
          have HR7 := Lib.hid hr7
          clear hr7
          
          skip
          go_wp2_with fail
          refine (HUba.out _ (HB.out.below (by repeat (first | (with_reducible exact Below.refl _ _) | (with_reducible refine balloc ?_ _) | (with_reducible refine Below.drew ?_) | (with_reducible refine bdrewN ?_ _) | ((with_reducible refine bset ?_ ?_ _); rotate_left; focus (first | (with_reducible exact Nat.le_refl _) | (simp; done) | (simp; omega) | omega)) | (with_reducible refine bstep (by with_reducible assumption) ?_)))) (HA.out.below (by repeat (first | (with_reducible exact Below.refl _ _) | (with_reducible refine balloc ?_ _) | (with_reducible refine Below.drew ?_) | (with_reducible refine bdrewN ?_ _) | ((with_reducible refine bset ?_ ?_ _); rotate_left; focus (first | (with_reducible exact Nat.le_refl _) | (simp; done) | (simp; omega) | omega)) | (with_reducible refine bstep (by with_reducible assumption) ?_))))).mono ?_
          rintro e w8 ⟨v8, rfl, ho8, hb8⟩
          clear kcA7 kfA7 kaA7 kgA7 kcB7 kfB7 kaB7 kgB7
          have kM8 : Bk w8 (w5.heap.size) 29 #[.int .i64 R0.x0, .int .i64 R0.y0, .int .i64 R0.x1, .int .i64 R0.y1, .slice A5 n0 c5] := (by repeat (first | (with_reducible assumption) | ((with_reducible refine Bk.new _ _ _ ?_); first | (with_reducible rfl) | (simp; done)) | (with_reducible refine Bk.alloc ?_ _) | (with_reducible refine Bk.drew ?_) | (with_reducible refine Bk.drewN ?_ _) | ((with_reducible refine Bk.far ?_ ?_ _); rotate_left; focus (first | (simp; done) | (simp; omega))) | (with_reducible refine Bk.below ?_ (by with_reducible assumption)))); obtain ⟨kcM8, kfM8, kaM8, kgM8, klM8⟩ := kM8.rules; have kN8 : Bk w8 (w6.heap.size) 29 #[.int .i64 R0.x0, .int .i64 R0.y0, .int .i64 R0.x1, .int .i64 R0.y1, .slice A6 n0 c6] := (by repeat (first | (with_reducible assumption) | ((with_reducible refine Bk.new _ _ _ ?_); first | (with_reducible rfl) | (simp; done)) | (with_reducible refine Bk.alloc ?_ _) | (with_reducible refine Bk.drew ?_) | (with_reducible refine Bk.drewN ?_ _) | ((with_reducible refine Bk.far ?_ ?_ _); rotate_left; focus (first | (simp; done) | (simp; omega))) | (with_reducible refine Bk.below ?_ (by with_reducible assumption)))); obtain ⟨kcN8, kfN8, kaN8, kgN8, klN8⟩ := kN8.rules
          obtain ⟨A8, c8, hv8, hr8, _⟩ := ho8.form encB_len
          rw [Hn1.out] at hv8
          subst hv8
          have HR8 := Lib.hid hr8
          clear hr8
          
          skip
          go_wp2_with fail
          refine (rmequal_any R0 R0 A5 A6 n0 n0 c5 c6 L0 L0 _ (HR5.out.below (by repeat (first | (with_reducible exact Below.refl _ _) | (with_reducible refine balloc ?_ _) | (with_reducible refine Below.drew ?_) | (with_reducible refine bdrewN ?_ _) | ((with_reducible refine bset ?_ ?_ _); rotate_left; focus (first | (with_reducible exact Nat.le_refl _) | (simp; done) | (simp; omega) | omega)) | (with_reducible refine bstep (by with_reducible assumption) ?_)))) (HR6.out.below (by repeat (first | (with_reducible exact Below.refl _ _) | (with_reducible refine balloc ?_ _) | (with_reducible refine Below.drew ?_) | (with_reducible refine bdrewN ?_ _) | ((with_reducible refine bset ?_ ?_ _); rotate_left; focus (first | (with_reducible exact Nat.le_refl _) | (simp; done) | (simp; omega) | omega)) | (with_reducible refine bstep (by with_reducible assumption) ?_)))) Hn0.out Hn0.out (by omega) (by omega) true ⟨fun _ => ⟨rfl, rfl⟩, fun _ => rfl⟩).mono ?_
          rintro e w9 ⟨rfl, hb9⟩
          clear kcM8 kfM8 kaM8 kgM8 kcN8 kfN8 kaN8 kgN8
          have kU9 : Bk w9 (w7.heap.size) 29 #[.int .i64 U.x0, .int .i64 U.y0, .int .i64 U.x1, .int .i64 U.y1, .slice A7 n1 c7] := (by repeat (first | (with_reducible assumption) | ((with_reducible refine Bk.new _ _ _ ?_); first | (with_reducible rfl) | (simp; done)) | (with_reducible refine Bk.alloc ?_ _) | (with_reducible refine Bk.drew ?_) | (with_reducible refine Bk.drewN ?_ _) | ((with_reducible refine Bk.far ?_ ?_ _); rotate_left; focus (first | (simp; done) | (simp; omega))) | (with_reducible refine Bk.below ?_ (by with_reducible assumption)))); obtain ⟨kcU9, kfU9, kaU9, kgU9, klU9⟩ := kU9.rules; have kV9 : Bk w9 (w8.heap.size) 29 #[.int .i64 U.x0, .int .i64 U.y0, .int .i64 U.x1, .int .i64 U.y1, .slice A8 n1 c8] := (by repeat (first | (with_reducible assumption) | ((with_reducible refine Bk.new _ _ _ ?_); first | (with_reducible rfl) | (simp; done)) | (with_reducible refine Bk.alloc ?_ _) | (with_reducible refine Bk.drew ?_) | (with_reducible refine Bk.drewN ?_ _) | ((with_reducible refine Bk.far ?_ ?_ _); rotate_left; focus (first | (simp; done) | (simp; omega))) | (with_reducible refine Bk.below ?_ (by with_reducible assumption)))); obtain ⟨kcV9, kfV9, kaV9, kgV9, klV9⟩ := kV9.rules
          go_wp2_with fail
          refine (rmequal_any U U A7 A8 n1 n1 c7 c8 L1 L1 _ (HR7.out.below (by repeat (first | (with_reducible exact Below.refl _ _) | (with_reducible refine balloc ?_ _) | (with_reducible refine Below.drew ?_) | (with_reducible refine bdrewN ?_ _) | ((with_reducible refine bset ?_ ?_ _); rotate_left; focus (first | (with_reducible exact Nat.le_refl _) | (simp; done) | (simp; omega) | omega)) | (with_reducible refine bstep (by with_reducible assumption) ?_)))) (HR8.out.below (by repeat (first | (with_reducible exact Below.refl _ _) | (with_reducible refine balloc ?_ _) | (with_reducible refine Below.drew ?_) | (with_reducible refine bdrewN ?_ _) | ((with_reducible refine bset ?_ ?_ _); rotate_left; focus (first | (with_reducible exact Nat.le_refl _) | (simp; done) | (simp; omega) | omega)) | (with_reducible refine bstep (by with_reducible assumption) ?_)))) Hn1.out Hn1.out (by omega) (by omega) true ⟨fun _ => ⟨rfl, rfl⟩, fun _ => rfl⟩).mono ?_
          rintro e w10 ⟨rfl, hb10⟩
          clear kcU9 kfU9 kaU9 kgU9 kcV9 kfV9 kaV9 kgV9
          have kA10 : Bk w10 (w.heap.size) 29 #[.int .i64 a.r.x0, .int .i64 a.r.y0, .int .i64 a.r.x1, .int .i64 a.r.y1, .slice a.A a.n a.c] := (by repeat (first | (with_reducible assumption) | ((with_reducible refine Bk.new _ _ _ ?_); first | (with_reducible rfl) | (simp; done)) | (with_reducible refine Bk.alloc ?_ _) | (with_reducible refine Bk.drew ?_) | (with_reducible refine Bk.drewN ?_ _) | ((with_reducible refine Bk.far ?_ ?_ _); rotate_left; focus (first | (simp; done) | (simp; omega))) | (with_reducible refine Bk.below ?_ (by with_reducible assumption)))); obtain ⟨kcA10, kfA10, kaA10, kgA10, klA10⟩ := kA10.rules
          have kB10 : Bk w10 (w.heap.size + 1) 29 #[.int .i64 b.r.x0, .int .i64 b.r.y0, .int .i64 b.r.x1, .int .i64 b.r.y1, .slice b.A b.n b.c] := (by repeat (first | (with_reducible assumption) | ((with_reducible refine Bk.new _ _ _ ?_); first | (with_reducible rfl) | (simp; done)) | (with_reducible refine Bk.alloc ?_ _) | (with_reducible refine Bk.drew ?_) | (with_reducible refine Bk.drewN ?_ _) | ((with_reducible refine Bk.far ?_ ?_ _); rotate_left; focus (first | (simp; done) | (simp; omega))) | (with_reducible refine Bk.below ?_ (by with_reducible assumption)))); obtain ⟨kcB10, kfB10, kaB10, kgB10, klB10⟩ := kB10.rules; have kU10 : Bk w10 (w7.heap.size) 29 #[.int .i64 U.x0, .int .i64 U.y0, .int .i64 U.x1, .int .i64 U.y1, .slice A7 n1 c7] := (by repeat (first | (with_reducible assumption) | ((with_reducible refine Bk.new _ _ _ ?_); first | (with_reducible rfl) | (simp; done)) | (with_reducible refine Bk.alloc ?_ _) | (with_reducible refine Bk.drew ?_) | (with_reducible refine Bk.drewN ?_ _) | ((with_reducible refine Bk.far ?_ ?_ _); rotate_left; focus (first | (simp; done) | (simp; omega))) | (with_reducible refine Bk.below ?_ (by with_reducible assumption)))); obtain ⟨kcU10, kfU10, kaU10, kgU10, klU10⟩ := kU10.rules
          go_wp2_with fail
          clear kcA10 kfA10 kaA10 kgA10 kcB10 kfB10 kaB10 kgB10 kcU10 kfU10 kaU10 kgU10
          refine wp_region_gob 8 [(0, true), (1, true), (2, true), (3, true), (4, true), (5, true), (6, false), (7, true)] (by kernel_rfl) (by kernel_rfl) (fun c a d v w h => by cases d <;> exact h) ?_
          repeat (first | (refine wpGo_pure (v := ?_) rfl rfl (fun w' hS => ?_) ?_; rotate_left; (· have kAp : Bk w' (w.heap.size) 29 #[.int .i64 a.r.x0, .int .i64 a.r.y0, .int .i64 a.r.x1, .int .i64 a.r.y1, .slice a.A a.n a.c] := (by repeat (first | (with_reducible assumption) | ((with_reducible refine Bk.new _ _ _ ?_); first | (with_reducible rfl) | (simp; done)) | (with_reducible refine Bk.alloc ?_ _) | (with_reducible refine Bk.drew ?_) | (with_reducible refine Bk.drewN ?_ _) | ((with_reducible refine Bk.far ?_ ?_ _); rotate_left; focus (first | (simp; done) | (simp; omega))) | (with_reducible refine Bk.below ?_ (by with_reducible assumption)))); obtain ⟨kcAp, kfAp, kaAp, kgAp, klAp⟩ := kAp.rules; have kBp : Bk w' (w.heap.size + 1) 29 #[.int .i64 b.r.x0, .int .i64 b.r.y0, .int .i64 b.r.x1, .int .i64 b.r.y1, .slice b.A b.n b.c] := (by repeat (first | (with_reducible assumption) | ((with_reducible refine Bk.new _ _ _ ?_); first | (with_reducible rfl) | (simp; done)) | (with_reducible refine Bk.alloc ?_ _) | (with_reducible refine Bk.drew ?_) | (with_reducible refine Bk.drewN ?_ _) | ((with_reducible refine Bk.far ?_ ?_ _); rotate_left; focus (first | (simp; done) | (simp; omega))) | (with_reducible refine Bk.below ?_ (by with_reducible assumption)))); obtain ⟨kcBp, kfBp, kaBp, kgBp, klBp⟩ := kBp.rules; have kUp : Bk w' (w7.heap.size) 29 #[.int .i64 U.x0, .int .i64 U.y0, .int .i64 U.x1, .int .i64 U.y1, .slice A7 n1 c7] := (by repeat (first | (with_reducible assumption) | ((with_reducible refine Bk.new _ _ _ ?_); first | (with_reducible rfl) | (simp; done)) | (with_reducible refine Bk.alloc ?_ _) | (with_reducible refine Bk.drew ?_) | (with_reducible refine Bk.drewN ?_ _) | ((with_reducible refine Bk.far ?_ ?_ _); rotate_left; focus (first | (simp; done) | (simp; omega))) | (with_reducible refine Bk.below ?_ (by with_reducible assumption)))); obtain ⟨kcUp, kfUp, kaUp, kgUp, klUp⟩ := kUp.rules; go_simp; exact rfl); (try simp only [Act.put, List.setIfInBounds_toArray, List.set_cons_zero, List.set_cons_succ])) | ((refine wpGo_skip rfl rfl ?_); (try simp only [Act.put, List.setIfInBounds_toArray, List.set_cons_zero, List.set_cons_succ])))
          refine wpGo_eff rfl (fun K hK => ?_)
          go_simp
          refine (runion_q _ _ _ _ _ _ _ _ U HU' _).mono ?_
          rintro e w11 ⟨rfl, hb11⟩
          refine hK.out _ _ (by repeat (first | (with_reducible exact Below.refl _ _) | (with_reducible refine balloc ?_ _) | (with_reducible refine Below.drew ?_) | (with_reducible refine bdrewN ?_ _) | ((with_reducible refine bset ?_ ?_ _); rotate_left; focus (first | (with_reducible exact Nat.le_refl _) | (simp; done) | (simp; omega) | omega)) | (with_reducible refine bstep (by with_reducible assumption) ?_))) (fun hS11 => ?_)
          clear hK K
          repeat (first | (refine wpGo_pure (v := ?_) rfl rfl (fun w' hS => ?_) ?_; rotate_left; (· have kAp : Bk w' (w.heap.size) 29 #[.int .i64 a.r.x0, .int .i64 a.r.y0, .int .i64 a.r.x1, .int .i64 a.r.y1, .slice a.A a.n a.c] := (by repeat (first | (with_reducible assumption) | ((with_reducible refine Bk.new _ _ _ ?_); first | (with_reducible rfl) | (simp; done)) | (with_reducible refine Bk.alloc ?_ _) | (with_reducible refine Bk.drew ?_) | (with_reducible refine Bk.drewN ?_ _) | ((with_reducible refine Bk.far ?_ ?_ _); rotate_left; focus (first | (simp; done) | (simp; omega))) | (with_reducible refine Bk.below ?_ (by with_reducible assumption)))); obtain ⟨kcAp, kfAp, kaAp, kgAp, klAp⟩ := kAp.rules; have kBp : Bk w' (w.heap.size + 1) 29 #[.int .i64 b.r.x0, .int .i64 b.r.y0, .int .i64 b.r.x1, .int .i64 b.r.y1, .slice b.A b.n b.c] := (by repeat (first | (with_reducible assumption) | ((with_reducible refine Bk.new _ _ _ ?_); first | (with_reducible rfl) | (simp; done)) | (with_reducible refine Bk.alloc ?_ _) | (with_reducible refine Bk.drew ?_) | (with_reducible refine Bk.drewN ?_ _) | ((with_reducible refine Bk.far ?_ ?_ _); rotate_left; focus (first | (simp; done) | (simp; omega))) | (with_reducible refine Bk.below ?_ (by with_reducible assumption)))); obtain ⟨kcBp, kfBp, kaBp, kgBp, klBp⟩ := kBp.rules; have kUp : Bk w' (w7.heap.size) 29 #[.int .i64 U.x0, .int .i64 U.y0, .int .i64 U.x1, .int .i64 U.y1, .slice A7 n1 c7] := (by repeat (first | (with_reducible assumption) | ((with_reducible refine Bk.new _ _ _ ?_); first | (with_reducible rfl) | (simp; done)) | (with_reducible refine Bk.alloc ?_ _) | (with_reducible refine Bk.drew ?_) | (with_reducible refine Bk.drewN ?_ _) | ((with_reducible refine Bk.far ?_ ?_ _); rotate_left; focus (first | (simp; done) | (simp; omega))) | (with_reducible refine Bk.below ?_ (by with_reducible assumption)))); obtain ⟨kcUp, kfUp, kaUp, kgUp, klUp⟩ := kUp.rules; go_simp; exact rfl); (try simp only [Act.put, List.setIfInBounds_toArray, List.set_cons_zero, List.set_cons_succ])) | ((refine wpGo_skip rfl rfl ?_); (try simp only [Act.put, List.setIfInBounds_toArray, List.set_cons_zero, List.set_cons_succ])))
          refine wpGo_nil ?_
          simp only [List.drop_succ_cons, List.drop_zero]
          have kA : Bk w11 (w.heap.size) 29 #[.int .i64 a.r.x0, .int .i64 a.r.y0, .int .i64 a.r.x1, .int .i64 a.r.y1, .slice a.A a.n a.c] := (by repeat (first | (with_reducible assumption) | ((with_reducible refine Bk.new _ _ _ ?_); first | (with_reducible rfl) | (simp; done)) | (with_reducible refine Bk.alloc ?_ _) | (with_reducible refine Bk.drew ?_) | (with_reducible refine Bk.drewN ?_ _) | ((with_reducible refine Bk.far ?_ ?_ _); rotate_left; focus (first | (simp; done) | (simp; omega))) | (with_reducible refine Bk.below ?_ (by with_reducible assumption))))
          have kB : Bk w11 (w.heap.size + 1) 29 #[.int .i64 b.r.x0, .int .i64 b.r.y0, .int .i64 b.r.x1, .int .i64 b.r.y1, .slice b.A b.n b.c] := (by repeat (first | (with_reducible assumption) | ((with_reducible refine Bk.new _ _ _ ?_); first | (with_reducible rfl) | (simp; done)) | (with_reducible refine Bk.alloc ?_ _) | (with_reducible refine Bk.drew ?_) | (with_reducible refine Bk.drewN ?_ _) | ((with_reducible refine Bk.far ?_ ?_ _); rotate_left; focus (first | (simp; done) | (simp; omega))) | (with_reducible refine Bk.below ?_ (by with_reducible assumption))))
          have kM : Bk w11 (w5.heap.size) 29 #[.int .i64 R0.x0, .int .i64 R0.y0, .int .i64 R0.x1, .int .i64 R0.y1, .slice A5 n0 c5] := (by repeat (first | (with_reducible assumption) | ((with_reducible refine Bk.new _ _ _ ?_); first | (with_reducible rfl) | (simp; done)) | (with_reducible refine Bk.alloc ?_ _) | (with_reducible refine Bk.drew ?_) | (with_reducible refine Bk.drewN ?_ _) | ((with_reducible refine Bk.far ?_ ?_ _); rotate_left; focus (first | (simp; done) | (simp; omega))) | (with_reducible refine Bk.below ?_ (by with_reducible assumption))))
          have kU : Bk w11 (w7.heap.size) 29 #[.int .i64 U.x0, .int .i64 U.y0, .int .i64 U.x1, .int .i64 U.y1, .slice A7 n1 c7] := (by repeat (first | (with_reducible assumption) | ((with_reducible refine Bk.new _ _ _ ?_); first | (with_reducible rfl) | (simp; done)) | (with_reducible refine Bk.alloc ?_ _) | (with_reducible refine Bk.drew ?_) | (with_reducible refine Bk.drewN ?_ _) | ((with_reducible refine Bk.far ?_ ?_ _); rotate_left; focus (first | (simp; done) | (simp; omega))) | (with_reducible refine Bk.below ?_ (by with_reducible assumption))))
          have hrM : RdL encB 1 w11 A5 L0 := HR5.out.below (by repeat (first | (with_reducible exact Below.refl _ _) | (with_reducible refine balloc ?_ _) | (with_reducible refine Below.drew ?_) | (with_reducible refine bdrewN ?_ _) | ((with_reducible refine bset ?_ ?_ _); rotate_left; focus (first | (with_reducible exact Nat.le_refl _) | (simp; done) | (simp; omega) | omega)) | (with_reducible refine bstep (by with_reducible assumption) ?_)))
          have HXM := Lib.hid hrM
          have hrU : RdL encB 1 w11 A7 L1 := HR7.out.below (by repeat (first | (with_reducible exact Below.refl _ _) | (with_reducible refine balloc ?_ _) | (with_reducible refine Below.drew ?_) | (with_reducible refine bdrewN ?_ _) | ((with_reducible refine bset ?_ ?_ _); rotate_left; focus (first | (with_reducible exact Nat.le_refl _) | (simp; done) | (simp; omega) | omega)) | (with_reducible refine bstep (by with_reducible assumption) ?_)))
          have HXU := Lib.hid hrU
          have hBW : Below w.heap.size w w11 := (by repeat (first | (with_reducible exact Below.refl _ _) | (with_reducible refine balloc ?_ _) | (with_reducible refine Below.drew ?_) | (with_reducible refine bdrewN ?_ _) | ((with_reducible refine bset ?_ ?_ _); rotate_left; focus (first | (with_reducible exact Nat.le_refl _) | (simp; done) | (simp; omega) | omega)) | (with_reducible refine bstep (by with_reducible assumption) ?_)))
          obtain ⟨kcU9, kfU9, kaU9, kgU9, klU9⟩ := kU.rules
          go_wp2_with fail
          clear kcU9 kfU9 kaU9 kgU9
          obtain ⟨⟨qx0, qx1, qx2⟩, ⟨qy0, qy1, qy2⟩⟩ := hcq
          obtain ⟨wd, hwd⟩ : ∃ n : Nat, U.x1 - U.x0 = (n : Int) := ⟨(U.x1 - U.x0).toNat, by omega⟩
          obtain ⟨ht, hht⟩ : ∃ n : Nat, U.y1 - U.y0 = (n : Int) := ⟨(U.y1 - U.y0).toNat, by omega⟩
          go_loopw [13] (fun i wr => ∃ (j : Nat), j ≤ ht ∧ i = .int .i64 (U.y0 + j) ∧ Below w11.heap.size w11 wr) (fun i _ => (U.y1 - intOf i).toNat)
          case atStart => exact ⟨0, Nat.zero_le _, by simp, Below.refl _ _⟩
          case round =>
            obtain ⟨j, hj, rfl, hbw⟩ := hrel
            have jA := kA.below hbw
            obtain ⟨kcA, kfA, kaA, kgA, klA⟩ := jA.rules
            have jB := kB.below hbw
            obtain ⟨kcB, kfB, kaB, kgB, klB⟩ := jB.rules
            have jM := kM.below hbw
            obtain ⟨kcM, kfM, kaM, kgM, klM⟩ := jM.rules
            have jU := kU.below hbw
            obtain ⟨kcU, kfU, kaU, kgU, klU⟩ := jU.rules
            by_cases hlt : U.y0 + j < U.y1
            · go_wp2_with fail
              clear kcA kfA kaA kgA kcB kfB kaB kgB kcM kfM kaM kgM kcU kfU kaU kgU
              go_loopw [14] (fun i wr => ∃ (k : Nat), k ≤ wd ∧ i = .int .i64 (U.x0 + k) ∧ Below w11.heap.size w11 wr) (fun i _ => (U.x1 - intOf i).toNat)
              case atStart => exact ⟨0, Nat.zero_le _, by simp, hbw⟩
              case round =>
                obtain ⟨k, hk, rfl, hbw⟩ := hrel
                have jA := kA.below hbw
                obtain ⟨kcA, kfA, kaA, kgA, klA⟩ := jA.rules
                have jB := kB.below hbw
                obtain ⟨kcB, kfB, kaB, kgB, klB⟩ := jB.rules
                have jM := kM.below hbw
                obtain ⟨kcM, kfM, kaM, kgM, klM⟩ := jM.rules
                have jU := kU.below hbw
                obtain ⟨kcU, kfU, kaU, kgU, klU⟩ := jU.rules
                by_cases hlx : U.x0 + k < U.x1
                · have hcon : containsB U (U.x0 + k) (U.y0 + j) = true := (contains_iff hcn.out _ _).2 ⟨by omega, by omega, by omega, by omega⟩
                  have HCON := Lib.hid hcon
                  clear hcon
                  obtain ⟨p, Hp⟩ : ∃ p, Hid (atV a.r a.l (U.x0 + (k : Int)) (U.y0 + (j : Int)) = p) := ⟨_, rfl⟩
                  obtain ⟨q, Hq⟩ : ∃ p, Hid (atV b.r b.l (U.x0 + (k : Int)) (U.y0 + (j : Int)) = p) := ⟨_, rfl⟩
                  obtain ⟨pm, Hpm⟩ : ∃ p, Hid (atV R0 L0 (U.x0 + (k : Int)) (U.y0 + (j : Int)) = p) := ⟨_, rfl⟩
                  obtain ⟨pu, Hpu⟩ : ∃ p, Hid (atV U L1 (U.x0 + (k : Int)) (U.y0 + (j : Int)) = p) := ⟨_, rfl⟩
                  have g1 := HOM.out (U.x0 + (k : Int)) (U.y0 + (j : Int))
                  have g2 := HOU.out (U.x0 + (k : Int)) (U.y0 + (j : Int)) HCON.out
                  rw [Hp.out, Hq.out, Hpm.out] at g1
                  rw [Hp.out, Hq.out, Hpu.out] at g2
                  have i1 : ¬ (min p q < pm) := by omega
                  have i2 : ¬ (pu < max p q) := by omega
                  have hmx := max_if
                  have hmn := min_if
                  clear g1 g2
                  go_wp2_with fail
                  clear kcA kfA kaA kgA kcB kfB kaB kgB kcM kfM kaM kgM kcU kfU kaU kgU
                  refine wp_region_gob 10 [(0, true), (1, true), (2, true), (4, true), (5, true), (6, true), (3, false), (7, false), (8, true), (9, true)] (by kernel_rfl) (by kernel_rfl) (fun c a d v w h => by cases d <;> exact h) ?_
                  repeat (first | (refine wpGo_pure (v := ?_) rfl rfl (fun w' hS => ?_) ?_; rotate_left; (· have kAp : Bk w' (w.heap.size) 29 #[.int .i64 a.r.x0, .int .i64 a.r.y0, .int .i64 a.r.x1, .int .i64 a.r.y1, .slice a.A a.n a.c] := (by repeat (first | (with_reducible assumption) | ((with_reducible refine Bk.new _ _ _ ?_); first | (with_reducible rfl) | (simp; done)) | (with_reducible refine Bk.alloc ?_ _) | (with_reducible refine Bk.drew ?_) | (with_reducible refine Bk.drewN ?_ _) | ((with_reducible refine Bk.far ?_ ?_ _); rotate_left; focus (first | (simp; done) | (simp; omega))) | (with_reducible refine Bk.below ?_ (by with_reducible assumption)))); obtain ⟨kcAp, kfAp, kaAp, kgAp, klAp⟩ := kAp.rules; have kBp : Bk w' (w.heap.size + 1) 29 #[.int .i64 b.r.x0, .int .i64 b.r.y0, .int .i64 b.r.x1, .int .i64 b.r.y1, .slice b.A b.n b.c] := (by repeat (first | (with_reducible assumption) | ((with_reducible refine Bk.new _ _ _ ?_); first | (with_reducible rfl) | (simp; done)) | (with_reducible refine Bk.alloc ?_ _) | (with_reducible refine Bk.drew ?_) | (with_reducible refine Bk.drewN ?_ _) | ((with_reducible refine Bk.far ?_ ?_ _); rotate_left; focus (first | (simp; done) | (simp; omega))) | (with_reducible refine Bk.below ?_ (by with_reducible assumption)))); obtain ⟨kcBp, kfBp, kaBp, kgBp, klBp⟩ := kBp.rules; go_simp; exact rfl); (try simp only [Act.put, List.setIfInBounds_toArray, List.set_cons_zero, List.set_cons_succ])) | ((refine wpGo_skip rfl rfl ?_); (try simp only [Act.put, List.setIfInBounds_toArray, List.set_cons_zero, List.set_cons_succ])))
                  refine wpGo_eff rfl (fun K hK => ?_)
                  go_simp
                  refine (mAt_any a.r a.A a.n a.c a.l _ _ _ (HA.out.rd.below (by repeat (first | (with_reducible exact Below.refl _ _) | (with_reducible refine balloc ?_ _) | (with_reducible refine Below.drew ?_) | (with_reducible refine bdrewN ?_ _) | ((with_reducible refine bset ?_ ?_ _); rotate_left; focus (first | (with_reducible exact Nat.le_refl _) | (simp; done) | (simp; omega) | omega)) | (with_reducible refine bstep (by with_reducible assumption) ?_)))) HA.out.ln (by omega) p Hp).mono ?_
                  rintro e w21 ⟨rfl, hb21⟩
                  refine hK.out _ _ (by repeat (first | (with_reducible exact Below.refl _ _) | (with_reducible refine balloc ?_ _) | (with_reducible refine Below.drew ?_) | (with_reducible refine bdrewN ?_ _) | ((with_reducible refine bset ?_ ?_ _); rotate_left; focus (first | (with_reducible exact Nat.le_refl _) | (simp; done) | (simp; omega) | omega)) | (with_reducible refine bstep (by with_reducible assumption) ?_))) (fun hS21 => ?_)
                  clear hK K
                  refine wpGo_eff rfl (fun K hK => ?_)
                  go_simp
                  refine (mAt_any b.r b.A b.n b.c b.l _ _ _ (HB.out.rd.below (by repeat (first | (with_reducible exact Below.refl _ _) | (with_reducible refine balloc ?_ _) | (with_reducible refine Below.drew ?_) | (with_reducible refine bdrewN ?_ _) | ((with_reducible refine bset ?_ ?_ _); rotate_left; focus (first | (with_reducible exact Nat.le_refl _) | (simp; done) | (simp; omega) | omega)) | (with_reducible refine bstep (by with_reducible assumption) ?_)))) HB.out.ln (by omega) q Hq).mono ?_
                  rintro e w22 ⟨rfl, hb22⟩
                  refine hK.out _ _ (by repeat (first | (with_reducible exact Below.refl _ _) | (with_reducible refine balloc ?_ _) | (with_reducible refine Below.drew ?_) | (with_reducible refine bdrewN ?_ _) | ((with_reducible refine bset ?_ ?_ _); rotate_left; focus (first | (with_reducible exact Nat.le_refl _) | (simp; done) | (simp; omega) | omega)) | (with_reducible refine bstep (by with_reducible assumption) ?_))) (fun hS22 => ?_)
                  clear hK K
                  repeat (first | (refine wpGo_pure (v := ?_) rfl rfl (fun w' hS => ?_) ?_; rotate_left; (· have kAp : Bk w' (w.heap.size) 29 #[.int .i64 a.r.x0, .int .i64 a.r.y0, .int .i64 a.r.x1, .int .i64 a.r.y1, .slice a.A a.n a.c] := (by repeat (first | (with_reducible assumption) | ((with_reducible refine Bk.new _ _ _ ?_); first | (with_reducible rfl) | (simp; done)) | (with_reducible refine Bk.alloc ?_ _) | (with_reducible refine Bk.drew ?_) | (with_reducible refine Bk.drewN ?_ _) | ((with_reducible refine Bk.far ?_ ?_ _); rotate_left; focus (first | (simp; done) | (simp; omega))) | (with_reducible refine Bk.below ?_ (by with_reducible assumption)))); obtain ⟨kcAp, kfAp, kaAp, kgAp, klAp⟩ := kAp.rules; have kBp : Bk w' (w.heap.size + 1) 29 #[.int .i64 b.r.x0, .int .i64 b.r.y0, .int .i64 b.r.x1, .int .i64 b.r.y1, .slice b.A b.n b.c] := (by repeat (first | (with_reducible assumption) | ((with_reducible refine Bk.new _ _ _ ?_); first | (with_reducible rfl) | (simp; done)) | (with_reducible refine Bk.alloc ?_ _) | (with_reducible refine Bk.drew ?_) | (with_reducible refine Bk.drewN ?_ _) | ((with_reducible refine Bk.far ?_ ?_ _); rotate_left; focus (first | (simp; done) | (simp; omega))) | (with_reducible refine Bk.below ?_ (by with_reducible assumption)))); obtain ⟨kcBp, kfBp, kaBp, kgBp, klBp⟩ := kBp.rules; go_simp; exact rfl); (try simp only [Act.put, List.setIfInBounds_toArray, List.set_cons_zero, List.set_cons_succ])) | ((refine wpGo_skip rfl rfl ?_); (try simp only [Act.put, List.setIfInBounds_toArray, List.set_cons_zero, List.set_cons_succ])))
                  refine wpGo_nil ?_
                  simp only [List.drop_succ_cons, List.drop_zero]
                  have kM22 : Bk w22 (w5.heap.size) 29 #[.int .i64 R0.x0, .int .i64 R0.y0, .int .i64 R0.x1, .int .i64 R0.y1, .slice A5 n0 c5] := (by repeat (first | (with_reducible assumption) | ((with_reducible refine Bk.new _ _ _ ?_); first | (with_reducible rfl) | (simp; done)) | (with_reducible refine Bk.alloc ?_ _) | (with_reducible refine Bk.drew ?_) | (with_reducible refine Bk.drewN ?_ _) | ((with_reducible refine Bk.far ?_ ?_ _); rotate_left; focus (first | (simp; done) | (simp; omega))) | (with_reducible refine Bk.below ?_ (by with_reducible assumption)))); obtain ⟨kcM22, kfM22, kaM22, kgM22, klM22⟩ := kM22.rules
                  go_wp2_with fail
                  refine (mAt_any R0 A5 n0 c5 L0 _ _ _ (HXM.out.below (by repeat (first | (with_reducible exact Below.refl _ _) | (with_reducible refine balloc ?_ _) | (with_reducible refine Below.drew ?_) | (with_reducible refine bdrewN ?_ _) | ((with_reducible refine bset ?_ ?_ _); rotate_left; focus (first | (with_reducible exact Nat.le_refl _) | (simp; done) | (simp; omega) | omega)) | (with_reducible refine bstep (by with_reducible assumption) ?_)))) Hn0.out (by omega) pm Hpm).mono ?_
                  rintro e w23 ⟨rfl, hb23⟩
                  clear kcM22 kfM22 kaM22 kgM22
                  have kU23 : Bk w23 (w7.heap.size) 29 #[.int .i64 U.x0, .int .i64 U.y0, .int .i64 U.x1, .int .i64 U.y1, .slice A7 n1 c7] := (by repeat (first | (with_reducible assumption) | ((with_reducible refine Bk.new _ _ _ ?_); first | (with_reducible rfl) | (simp; done)) | (with_reducible refine Bk.alloc ?_ _) | (with_reducible refine Bk.drew ?_) | (with_reducible refine Bk.drewN ?_ _) | ((with_reducible refine Bk.far ?_ ?_ _); rotate_left; focus (first | (simp; done) | (simp; omega))) | (with_reducible refine Bk.below ?_ (by with_reducible assumption)))); obtain ⟨kcU23, kfU23, kaU23, kgU23, klU23⟩ := kU23.rules
                  go_wp2_with fail
                  refine (mAt_any U A7 n1 c7 L1 _ _ _ (HXU.out.below (by repeat (first | (with_reducible exact Below.refl _ _) | (with_reducible refine balloc ?_ _) | (with_reducible refine Below.drew ?_) | (with_reducible refine bdrewN ?_ _) | ((with_reducible refine bset ?_ ?_ _); rotate_left; focus (first | (with_reducible exact Nat.le_refl _) | (simp; done) | (simp; omega) | omega)) | (with_reducible refine bstep (by with_reducible assumption) ?_)))) Hn1.out (by omega) pu Hpu).mono ?_
                  rintro e w24 ⟨rfl, hb24⟩
                  clear kcU23 kfU23 kaU23 kgU23
                  have hBE : Below w11.heap.size w11 w24 := (by repeat (first | (with_reducible exact Below.refl _ _) | (with_reducible refine balloc ?_ _) | (with_reducible refine Below.drew ?_) | (with_reducible refine bdrewN ?_ _) | ((with_reducible refine bset ?_ ?_ _); rotate_left; focus (first | (with_reducible exact Nat.le_refl _) | (simp; done) | (simp; omega) | omega)) | (with_reducible refine bstep (by with_reducible assumption) ?_)))
                  go_wp2
                  go_roundw
                  case rel => exact ⟨k + 1, by omega, by rw [show U.x0 + (k : Int) + 1 = U.x0 + ((k + 1 : Nat) : Int) by omega], hBE⟩
                  case measure => simp [intOf]; omega
                · obtain rfl : k = wd := by omega
                  go_wp2
                  go_roundw
                  case rel => exact ⟨j + 1, by omega, by rw [show U.y0 + (j : Int) + 1 = U.y0 + ((j + 1 : Nat) : Int) by omega], hbw⟩
                  case measure => simp [intOf]; omega
            · obtain rfl : j = ht := by omega
              go_wp2_with fail
              refine (HI.out _ (HA.out.below (by repeat (first | (with_reducible exact Below.refl _ _) | (with_reducible refine balloc ?_ _) | (with_reducible refine Below.drew ?_) | (with_reducible refine bdrewN ?_ _) | ((with_reducible refine bset ?_ ?_ _); rotate_left; focus (first | (with_reducible exact Nat.le_refl _) | (simp; done) | (simp; omega) | omega)) | (with_reducible refine bstep (by with_reducible assumption) ?_))))).mono ?_
              rintro e w12 ⟨v12, rfl, ho12, hb12⟩
              clear kcA kfA kaA kgA kcB kfB kaB kgB kcM kfM kaM kgM kcU kfU kaU kgU
              obtain ⟨A12, c12, hv12, hr12, hle12, hmx12⟩ := ho12.form2 encB_len
              rw [HnI.out] at hv12 hle12
              subst hv12
              have HU2 := Lib.hid hr12
              have HC12 := Lib.hid (And.intro hle12 hmx12)
              clear hr12 hle12 hmx12
              go_wp2_with fail
              refine (HI2.out A12 c12 _ ⟨HU2.out.below (by repeat (first | (with_reducible exact Below.refl _ _) | (with_reducible refine balloc ?_ _) | (with_reducible refine Below.drew ?_) | (with_reducible refine bdrewN ?_ _) | ((with_reducible refine bset ?_ ?_ _); rotate_left; focus (first | (with_reducible exact Nat.le_refl _) | (simp; done) | (simp; omega) | omega)) | (with_reducible refine bstep (by with_reducible assumption) ?_))), HnI.out, HbI.out, HC12.out.1, HC12.out.2⟩).mono ?_
              rintro e w13 ⟨v13, rfl, ho13, hb13⟩
              have kA13 : Bk w13 (w.heap.size) 29 #[.int .i64 a.r.x0, .int .i64 a.r.y0, .int .i64 a.r.x1, .int .i64 a.r.y1, .slice a.A a.n a.c] := (by repeat (first | (with_reducible assumption) | ((with_reducible refine Bk.new _ _ _ ?_); first | (with_reducible rfl) | (simp; done)) | (with_reducible refine Bk.alloc ?_ _) | (with_reducible refine Bk.drew ?_) | (with_reducible refine Bk.drewN ?_ _) | ((with_reducible refine Bk.far ?_ ?_ _); rotate_left; focus (first | (simp; done) | (simp; omega))) | (with_reducible refine Bk.below ?_ (by with_reducible assumption)))); obtain ⟨kcA13, kfA13, kaA13, kgA13, klA13⟩ := kA13.rules
              obtain ⟨A13, c13, hv13, hr13, hle13, hmx13⟩ := ho13.form2 encB_len
              rw [HAn.out] at hv13 hle13
              subst hv13
              have HU3 := Lib.hid hr13
              have HC13 := Lib.hid (And.intro hle13 hmx13)
              clear hr13 hle13 hmx13
              go_wp2_with fail
              refine (rmequal_any a.r a.r A13 a.A a.n a.n c13 a.c a.l a.l _ (HU3.out.below (by repeat (first | (with_reducible exact Below.refl _ _) | (with_reducible refine balloc ?_ _) | (with_reducible refine Below.drew ?_) | (with_reducible refine bdrewN ?_ _) | ((with_reducible refine bset ?_ ?_ _); rotate_left; focus (first | (with_reducible exact Nat.le_refl _) | (simp; done) | (simp; omega) | omega)) | (with_reducible refine bstep (by with_reducible assumption) ?_)))) (HA.out.rd.below (by repeat (first | (with_reducible exact Below.refl _ _) | (with_reducible refine balloc ?_ _) | (with_reducible refine Below.drew ?_) | (with_reducible refine bdrewN ?_ _) | ((with_reducible refine bset ?_ ?_ _); rotate_left; focus (first | (with_reducible exact Nat.le_refl _) | (simp; done) | (simp; omega) | omega)) | (with_reducible refine bstep (by with_reducible assumption) ?_)))) HA.out.ln HA.out.ln (by omega) (by omega) true ⟨fun _ => ⟨rfl, rfl⟩, fun _ => rfl⟩).mono ?_
              rintro e w14 ⟨rfl, hb14⟩
              clear kcA13 kfA13 kaA13 kgA13
              have kM14 : Bk w14 (w5.heap.size) 29 #[.int .i64 R0.x0, .int .i64 R0.y0, .int .i64 R0.x1, .int .i64 R0.y1, .slice A5 n0 c5] := (by repeat (first | (with_reducible assumption) | ((with_reducible refine Bk.new _ _ _ ?_); first | (with_reducible rfl) | (simp; done)) | (with_reducible refine Bk.alloc ?_ _) | (with_reducible refine Bk.drew ?_) | (with_reducible refine Bk.drewN ?_ _) | ((with_reducible refine Bk.far ?_ ?_ _); rotate_left; focus (first | (simp; done) | (simp; omega))) | (with_reducible refine Bk.below ?_ (by with_reducible assumption)))); obtain ⟨kcM14, kfM14, kaM14, kgM14, klM14⟩ := kM14.rules
              go_wp2_with fail
              refine (mvalid_any R0 A5 n0 c5 L0 _ (HXM.out.below (by repeat (first | (with_reducible exact Below.refl _ _) | (with_reducible refine balloc ?_ _) | (with_reducible refine Below.drew ?_) | (with_reducible refine bdrewN ?_ _) | ((with_reducible refine bset ?_ ?_ _); rotate_left; focus (first | (with_reducible exact Nat.le_refl _) | (simp; done) | (simp; omega) | omega)) | (with_reducible refine bstep (by with_reducible assumption) ?_)))) Hn0.out (by omega) true HVM).mono ?_
              rintro e w15 ⟨rfl, hb15⟩
              clear kcM14 kfM14 kaM14 kgM14
              have kU15 : Bk w15 (w7.heap.size) 29 #[.int .i64 U.x0, .int .i64 U.y0, .int .i64 U.x1, .int .i64 U.y1, .slice A7 n1 c7] := (by repeat (first | (with_reducible assumption) | ((with_reducible refine Bk.new _ _ _ ?_); first | (with_reducible rfl) | (simp; done)) | (with_reducible refine Bk.alloc ?_ _) | (with_reducible refine Bk.drew ?_) | (with_reducible refine Bk.drewN ?_ _) | ((with_reducible refine Bk.far ?_ ?_ _); rotate_left; focus (first | (simp; done) | (simp; omega))) | (with_reducible refine Bk.below ?_ (by with_reducible assumption)))); obtain ⟨kcU15, kfU15, kaU15, kgU15, klU15⟩ := kU15.rules
              go_wp2_with fail
              refine (mvalid_any U A7 n1 c7 L1 _ (HXU.out.below (by repeat (first | (with_reducible exact Below.refl _ _) | (with_reducible refine balloc ?_ _) | (with_reducible refine Below.drew ?_) | (with_reducible refine bdrewN ?_ _) | ((with_reducible refine bset ?_ ?_ _); rotate_left; focus (first | (with_reducible exact Nat.le_refl _) | (simp; done) | (simp; omega) | omega)) | (with_reducible refine bstep (by with_reducible assumption) ?_)))) Hn1.out (by omega) true HVU).mono ?_
              rintro e w16 ⟨rfl, hb16⟩
              clear kcU15 kfU15 kaU15 kgU15
              go_wp2_with fail
              refine (ex_any _).mono ?_
              rintro e w17 ⟨rfl, hb17⟩
              go_wp2
              go_ret
              exact ⟨rfl, (by repeat (first | (with_reducible exact Below.refl _ _) | (with_reducible refine balloc ?_ _) | (with_reducible refine Below.drew ?_) | (with_reducible refine bdrewN ?_ _) | ((with_reducible refine bset ?_ ?_ _); rotate_left; focus (first | (with_reducible exact Nat.le_refl _) | (simp; done) | (simp; omega) | omega)) | (with_reducible refine bstep (by with_reducible assumption) ?_)))⟩
        | false =>
          have e1 : mulE [a, b] = 14 := by rw [mulE_two, hv]; rfl
          have e2 : mulE [b, a] = 14 := by rw [mulE_comm]; exact e1
          have e3 : unME a b = 14 := by unfold unME; rw [hv]; rfl
          have e4 : unME b a = 14 := by rw [unME_comm]; exact e3
          have HOab : Hid (∀ x ∈ [a, b], x.ok w) := fun x hx => by
            rcases List.mem_cons.1 hx with h | h
            · rw [h]; exact HA.out
            · rw [List.mem_singleton.1 h]; exact HB.out
          have HMab : Hid (∀ (A : Option Addr) (c : Nat) (W : World), RdL encMk 5 W A [a, b] → 2 ≤ c → c ≤ maxLen → (∀ x ∈ [a, b], x.ok W) → Calls Try.prog 17 #[.slice A 2 c] W (RetME R0 L0 14 W)) := fun A c W hr hnc hcm ho => by
            have := mmul_any A 2 c [a, b] W hr rfl (by omega) hnc hcm ho (fun x hx => by
              rcases List.mem_cons.1 hx with h | h
              · rw [h]; omega
              · rw [List.mem_singleton.1 h]; omega)
            rw [HR0.out, HL0.out, e1] at this
            exact this
          have HOba : Hid (∀ x ∈ [b, a], x.ok w) := fun x hx => by
            rcases List.mem_cons.1 hx with h | h
            · rw [h]; exact HB.out
            · rw [List.mem_singleton.1 h]; exact HA.out
          have HMba : Hid (∀ (A : Option Addr) (c : Nat) (W : World), RdL encMk 5 W A [b, a] → 2 ≤ c → c ≤ maxLen → (∀ x ∈ [b, a], x.ok W) → Calls Try.prog 17 #[.slice A 2 c] W (RetME R0 L0 14 W)) := fun A c W hr hnc hcm ho => by
            have := mmul_any A 2 c [b, a] W hr rfl (by omega) hnc hcm ho (fun x hx => by
              rcases List.mem_cons.1 hx with h | h
              · rw [h]; omega
              · rw [List.mem_singleton.1 h]; omega)
            rw [m1, m2, e2] at this
            exact this
          have HUab : Hid (∀ (W : World), a.ok W → b.ok W → Calls Try.prog 23 #[.agg #[.int .i64 a.r.x0, .int .i64 a.r.y0, .int .i64 a.r.x1, .int .i64 a.r.y1, .slice a.A a.n a.c], .agg #[.int .i64 b.r.x0, .int .i64 b.r.y0, .int .i64 b.r.x1, .int .i64 b.r.y1, .slice b.A b.n b.c]] W (RetME R1 L1 14 W)) := fun W h1 h2 => by
            have := munion_any a b W h1 h2 (by omega) (by omega)
            rw [HR1.out, HL1.out, e3] at this
            exact this
          have HUba : Hid (∀ (W : World), b.ok W → a.ok W → Calls Try.prog 23 #[.agg #[.int .i64 b.r.x0, .int .i64 b.r.y0, .int .i64 b.r.x1, .int .i64 b.r.y1, .slice b.A b.n b.c], .agg #[.int .i64 a.r.x0, .int .i64 a.r.y0, .int .i64 a.r.x1, .int .i64 a.r.y1, .slice a.A a.n a.c]] W (RetME R1 L1 14 W)) := fun W h1 h2 => by
            have := munion_any b a W h1 h2 (by omega) (by omega)
            rw [u1, u2, e4] at this
            exact this
          clear e1 e2 e3 e4 m1 m2 u1 u2
          cases hva : vMk a with
          | false =>
            have Hva : Hid (mkValid a.r a.l = false) := hva
            clear hv hva
            go_enter Try.func7, Try.ntmps7
            go_wp2_with fail
            refine (small_any a.r a.A a.n a.c _ true HSa).mono ?_
            rintro e w1 ⟨rfl, hb1⟩
            have kB1 : Bk w1 (w.heap.size + 1) 29 #[.int .i64 b.r.x0, .int .i64 b.r.y0, .int .i64 b.r.x1, .int .i64 b.r.y1, .slice b.A b.n b.c] := (by repeat (first | (with_reducible assumption) | ((with_reducible refine Bk.new _ _ _ ?_); first | (with_reducible rfl) | (simp; done)) | (with_reducible refine Bk.alloc ?_ _) | (with_reducible refine Bk.drew ?_) | (with_reducible refine Bk.drewN ?_ _) | ((with_reducible refine Bk.far ?_ ?_ _); rotate_left; focus (first | (simp; done) | (simp; omega))) | (with_reducible refine Bk.below ?_ (by with_reducible assumption)))); obtain ⟨kcB1, kfB1, kaB1, kgB1, klB1⟩ := kB1.rules
            go_wp2_with fail
            refine (small_any b.r b.A b.n b.c _ true HSb).mono ?_
            rintro e w2 ⟨rfl, hb2⟩
            clear kcB1 kfB1 kaB1 kgB1
            have kA2 : Bk w2 (w.heap.size) 29 #[.int .i64 a.r.x0, .int .i64 a.r.y0, .int .i64 a.r.x1, .int .i64 a.r.y1, .slice a.A a.n a.c] := (by repeat (first | (with_reducible assumption) | ((with_reducible refine Bk.new _ _ _ ?_); first | (with_reducible rfl) | (simp; done)) | (with_reducible refine Bk.alloc ?_ _) | (with_reducible refine Bk.drew ?_) | (with_reducible refine Bk.drewN ?_ _) | ((with_reducible refine Bk.far ?_ ?_ _); rotate_left; focus (first | (simp; done) | (simp; omega))) | (with_reducible refine Bk.below ?_ (by with_reducible assumption)))); obtain ⟨kcA2, kfA2, kaA2, kgA2, klA2⟩ := kA2.rules; have kB2 : Bk w2 (w.heap.size + 1) 29 #[.int .i64 b.r.x0, .int .i64 b.r.y0, .int .i64 b.r.x1, .int .i64 b.r.y1, .slice b.A b.n b.c] := (by repeat (first | (with_reducible assumption) | ((with_reducible refine Bk.new _ _ _ ?_); first | (with_reducible rfl) | (simp; done)) | (with_reducible refine Bk.alloc ?_ _) | (with_reducible refine Bk.drew ?_) | (with_reducible refine Bk.drewN ?_ _) | ((with_reducible refine Bk.far ?_ ?_ _); rotate_left; focus (first | (simp; done) | (simp; omega))) | (with_reducible refine Bk.below ?_ (by with_reducible assumption)))); obtain ⟨kcB2, kfB2, kaB2, kgB2, klB2⟩ := kB2.rules
            go_wp2_with fail
            refine (runion_q _ _ _ _ _ _ _ _ U HU' _).mono ?_
            rintro e w3 ⟨rfl, hb3⟩
            clear kcA2 kfA2 kaA2 kgA2 kcB2 kfB2 kaB2 kgB2
            have kA3 : Bk w3 (w.heap.size) 29 #[.int .i64 a.r.x0, .int .i64 a.r.y0, .int .i64 a.r.x1, .int .i64 a.r.y1, .slice a.A a.n a.c] := (by repeat (first | (with_reducible assumption) | ((with_reducible refine Bk.new _ _ _ ?_); first | (with_reducible rfl) | (simp; done)) | (with_reducible refine Bk.alloc ?_ _) | (with_reducible refine Bk.drew ?_) | (with_reducible refine Bk.drewN ?_ _) | ((with_reducible refine Bk.far ?_ ?_ _); rotate_left; focus (first | (simp; done) | (simp; omega))) | (with_reducible refine Bk.below ?_ (by with_reducible assumption)))); obtain ⟨kcA3, kfA3, kaA3, kgA3, klA3⟩ := kA3.rules; have kB3 : Bk w3 (w.heap.size + 1) 29 #[.int .i64 b.r.x0, .int .i64 b.r.y0, .int .i64 b.r.x1, .int .i64 b.r.y1, .slice b.A b.n b.c] := (by repeat (first | (with_reducible assumption) | ((with_reducible refine Bk.new _ _ _ ?_); first | (with_reducible rfl) | (simp; done)) | (with_reducible refine Bk.alloc ?_ _) | (with_reducible refine Bk.drew ?_) | (with_reducible refine Bk.drewN ?_ _) | ((with_reducible refine Bk.far ?_ ?_ _); rotate_left; focus (first | (simp; done) | (simp; omega))) | (with_reducible refine Bk.below ?_ (by with_reducible assumption)))); obtain ⟨kcB3, kfB3, kaB3, kgB3, klB3⟩ := kB3.rules
            go_wp2_with fail
            refine (HAr.out _).mono ?_
            rintro e w4 ⟨rfl, hb4⟩
            clear kcA3 kfA3 kaA3 kgA3 kcB3 kfB3 kaB3 kgB3
            have kA4 : Bk w4 (w.heap.size) 29 #[.int .i64 a.r.x0, .int .i64 a.r.y0, .int .i64 a.r.x1, .int .i64 a.r.y1, .slice a.A a.n a.c] := (by repeat (first | (with_reducible assumption) | ((with_reducible refine Bk.new _ _ _ ?_); first | (with_reducible rfl) | (simp; done)) | (with_reducible refine Bk.alloc ?_ _) | (with_reducible refine Bk.drew ?_) | (with_reducible refine Bk.drewN ?_ _) | ((with_reducible refine Bk.far ?_ ?_ _); rotate_left; focus (first | (simp; done) | (simp; omega))) | (with_reducible refine Bk.below ?_ (by with_reducible assumption)))); obtain ⟨kcA4, kfA4, kaA4, kgA4, klA4⟩ := kA4.rules; have kB4 : Bk w4 (w.heap.size + 1) 29 #[.int .i64 b.r.x0, .int .i64 b.r.y0, .int .i64 b.r.x1, .int .i64 b.r.y1, .slice b.A b.n b.c] := (by repeat (first | (with_reducible assumption) | ((with_reducible refine Bk.new _ _ _ ?_); first | (with_reducible rfl) | (simp; done)) | (with_reducible refine Bk.alloc ?_ _) | (with_reducible refine Bk.drew ?_) | (with_reducible refine Bk.drewN ?_ _) | ((with_reducible refine Bk.far ?_ ?_ _); rotate_left; focus (first | (simp; done) | (simp; omega))) | (with_reducible refine Bk.below ?_ (by with_reducible assumption)))); obtain ⟨kcB4, kfB4, kaB4, kgB4, klB4⟩ := kB4.rules
            go_wp2_with fail
            refine (HMab.out _ _ _ (rd_of_bk (e := 29) encMk_len (Bk.new _ _ _ (by first | rfl | simp)) rfl) (by omega) (by unfold maxLen; omega) (fun x hx => (HOab.out x hx).below (by repeat (first | (with_reducible exact Below.refl _ _) | (with_reducible refine balloc ?_ _) | (with_reducible refine Below.drew ?_) | (with_reducible refine bdrewN ?_ _) | ((with_reducible refine bset ?_ ?_ _); rotate_left; focus (first | (with_reducible exact Nat.le_refl _) | (simp; done) | (simp; omega) | omega)) | (with_reducible refine bstep (by with_reducible assumption) ?_))))).mono ?_
            rintro e w5 ⟨v5, rfl, ho5, hb5⟩
            clear kcA4 kfA4 kaA4 kgA4 kcB4 kfB4 kaB4 kgB4
            have kA5 : Bk w5 (w.heap.size) 29 #[.int .i64 a.r.x0, .int .i64 a.r.y0, .int .i64 a.r.x1, .int .i64 a.r.y1, .slice a.A a.n a.c] := (by repeat (first | (with_reducible assumption) | ((with_reducible refine Bk.new _ _ _ ?_); first | (with_reducible rfl) | (simp; done)) | (with_reducible refine Bk.alloc ?_ _) | (with_reducible refine Bk.drew ?_) | (with_reducible refine Bk.drewN ?_ _) | ((with_reducible refine Bk.far ?_ ?_ _); rotate_left; focus (first | (simp; done) | (simp; omega))) | (with_reducible refine Bk.below ?_ (by with_reducible assumption)))); obtain ⟨kcA5, kfA5, kaA5, kgA5, klA5⟩ := kA5.rules; have kB5 : Bk w5 (w.heap.size + 1) 29 #[.int .i64 b.r.x0, .int .i64 b.r.y0, .int .i64 b.r.x1, .int .i64 b.r.y1, .slice b.A b.n b.c] := (by repeat (first | (with_reducible assumption) | ((with_reducible refine Bk.new _ _ _ ?_); first | (with_reducible rfl) | (simp; done)) | (with_reducible refine Bk.alloc ?_ _) | (with_reducible refine Bk.drew ?_) | (with_reducible refine Bk.drewN ?_ _) | ((with_reducible refine Bk.far ?_ ?_ _); rotate_left; focus (first | (simp; done) | (simp; omega))) | (with_reducible refine Bk.below ?_ (by with_reducible assumption)))); obtain ⟨kcB5, kfB5, kaB5, kgB5, klB5⟩ := kB5.rules
            obtain ⟨A5, c5, hv5, hr5, _⟩ := ho5.form encB_len
            rw [Hn0.out] at hv5
            subst hv5
            have HR5 := Lib.hid hr5
            clear hr5
            
            skip
            go_wp2_with fail
            refine (HMba.out _ _ _ (rd_of_bk (e := 29) encMk_len (Bk.new _ _ _ (by first | rfl | simp)) rfl) (by omega) (by unfold maxLen; omega) (fun x hx => (HOba.out x hx).below (by repeat (first | (with_reducible exact Below.refl _ _) | (with_reducible refine balloc ?_ _) | (with_reducible refine Below.drew ?_) | (with_reducible refine bdrewN ?_ _) | ((with_reducible refine bset ?_ ?_ _); rotate_left; focus (first | (with_reducible exact Nat.le_refl _) | (simp; done) | (simp; omega) | omega)) | (with_reducible refine bstep (by with_reducible assumption) ?_))))).mono ?_
            rintro e w6 ⟨v6, rfl, ho6, hb6⟩
            clear kcA5 kfA5 kaA5 kgA5 kcB5 kfB5 kaB5 kgB5
            have kA6 : Bk w6 (w.heap.size) 29 #[.int .i64 a.r.x0, .int .i64 a.r.y0, .int .i64 a.r.x1, .int .i64 a.r.y1, .slice a.A a.n a.c] := (by repeat (first | (with_reducible assumption) | ((with_reducible refine Bk.new _ _ _ ?_); first | (with_reducible rfl) | (simp; done)) | (with_reducible refine Bk.alloc ?_ _) | (with_reducible refine Bk.drew ?_) | (with_reducible refine Bk.drewN ?_ _) | ((with_reducible refine Bk.far ?_ ?_ _); rotate_left; focus (first | (simp; done) | (simp; omega))) | (with_reducible refine Bk.below ?_ (by with_reducible assumption)))); obtain ⟨kcA6, kfA6, kaA6, kgA6, klA6⟩ := kA6.rules; have kB6 : Bk w6 (w.heap.size + 1) 29 #[.int .i64 b.r.x0, .int .i64 b.r.y0, .int .i64 b.r.x1, .int .i64 b.r.y1, .slice b.A b.n b.c] := (by repeat (first | (with_reducible assumption) | ((with_reducible refine Bk.new _ _ _ ?_); first | (with_reducible rfl) | (simp; done)) | (with_reducible refine Bk.alloc ?_ _) | (with_reducible refine Bk.drew ?_) | (with_reducible refine Bk.drewN ?_ _) | ((with_reducible refine Bk.far ?_ ?_ _); rotate_left; focus (first | (simp; done) | (simp; omega))) | (with_reducible refine Bk.below ?_ (by with_reducible assumption)))); obtain ⟨kcB6, kfB6, kaB6, kgB6, klB6⟩ := kB6.rules
            obtain ⟨A6, c6, hv6, hr6, _⟩ := ho6.form encB_len
            rw [Hn0.out] at hv6
            subst hv6
            have HR6 := Lib.hid hr6
            clear hr6
            
            skip
            go_wp2_with fail
            refine (HUab.out _ (HA.out.below (by repeat (first | (with_reducible exact Below.refl _ _) | (with_reducible refine balloc ?_ _) | (with_reducible refine Below.drew ?_) | (with_reducible refine bdrewN ?_ _) | ((with_reducible refine bset ?_ ?_ _); rotate_left; focus (first | (with_reducible exact Nat.le_refl _) | (simp; done) | (simp; omega) | omega)) | (with_reducible refine bstep (by with_reducible assumption) ?_)))) (HB.out.below (by repeat (first | (with_reducible exact Below.refl _ _) | (with_reducible refine balloc ?_ _) | (with_reducible refine Below.drew ?_) | (with_reducible refine bdrewN ?_ _) | ((with_reducible refine bset ?_ ?_ _); rotate_left; focus (first | (with_reducible exact Nat.le_refl _) | (simp; done) | (simp; omega) | omega)) | (with_reducible refine bstep (by with_reducible assumption) ?_))))).mono ?_
            rintro e w7 ⟨v7, rfl, ho7, hb7⟩
            clear kcA6 kfA6 kaA6 kgA6 kcB6 kfB6 kaB6 kgB6
            have kA7 : Bk w7 (w.heap.size) 29 #[.int .i64 a.r.x0, .int .i64 a.r.y0, .int .i64 a.r.x1, .int .i64 a.r.y1, .slice a.A a.n a.c] := (by repeat (first | (with_reducible assumption) | ((with_reducible refine Bk.new _ _ _ ?_); first | (with_reducible rfl) | (simp; done)) | (with_reducible refine Bk.alloc ?_ _) | (with_reducible refine Bk.drew ?_) | (with_reducible refine Bk.drewN ?_ _) | ((with_reducible refine Bk.far ?_ ?_ _); rotate_left; focus (first | (simp; done) | (simp; omega))) | (with_reducible refine Bk.below ?_ (by with_reducible assumption)))); obtain ⟨kcA7, kfA7, kaA7, kgA7, klA7⟩ := kA7.rules; have kB7 : Bk w7 (w.heap.size + 1) 29 #[.int .i64 b.r.x0, .int .i64 b.r.y0, .int .i64 b.r.x1, .int .i64 b.r.y1, .slice b.A b.n b.c] := (by repeat (first | (with_reducible assumption) | ((with_reducible refine Bk.new _ _ _ ?_); first | (with_reducible rfl) | (simp; done)) | (with_reducible refine Bk.alloc ?_ _) | (with_reducible refine Bk.drew ?_) | (with_reducible refine Bk.drewN ?_ _) | ((with_reducible refine Bk.far ?_ ?_ _); rotate_left; focus (first | (simp; done) | (simp; omega))) | (with_reducible refine Bk.below ?_ (by with_reducible assumption)))); obtain ⟨kcB7, kfB7, kaB7, kgB7, klB7⟩ := kB7.rules
            obtain ⟨A7, c7, hv7, hr7, _⟩ := ho7.form encB_len
            rw [Hn1.out] at hv7
            subst hv7
            have HR7 := Lib.hid hr7
            clear hr7
            
            skip
            go_wp2_with fail
            refine (HUba.out _ (HB.out.below (by repeat (first | (with_reducible exact Below.refl _ _) | (with_reducible refine balloc ?_ _) | (with_reducible refine Below.drew ?_) | (with_reducible refine bdrewN ?_ _) | ((with_reducible refine bset ?_ ?_ _); rotate_left; focus (first | (with_reducible exact Nat.le_refl _) | (simp; done) | (simp; omega) | omega)) | (with_reducible refine bstep (by with_reducible assumption) ?_)))) (HA.out.below (by repeat (first | (with_reducible exact Below.refl _ _) | (with_reducible refine balloc ?_ _) | (with_reducible refine Below.drew ?_) | (with_reducible refine bdrewN ?_ _) | ((with_reducible refine bset ?_ ?_ _); rotate_left; focus (first | (with_reducible exact Nat.le_refl _) | (simp; done) | (simp; omega) | omega)) | (with_reducible refine bstep (by with_reducible assumption) ?_))))).mono ?_
            rintro e w8 ⟨v8, rfl, ho8, hb8⟩
            clear kcA7 kfA7 kaA7 kgA7 kcB7 kfB7 kaB7 kgB7
            have kM8 : Bk w8 (w5.heap.size) 29 #[.int .i64 R0.x0, .int .i64 R0.y0, .int .i64 R0.x1, .int .i64 R0.y1, .slice A5 n0 c5] := (by repeat (first | (with_reducible assumption) | ((with_reducible refine Bk.new _ _ _ ?_); first | (with_reducible rfl) | (simp; done)) | (with_reducible refine Bk.alloc ?_ _) | (with_reducible refine Bk.drew ?_) | (with_reducible refine Bk.drewN ?_ _) | ((with_reducible refine Bk.far ?_ ?_ _); rotate_left; focus (first | (simp; done) | (simp; omega))) | (with_reducible refine Bk.below ?_ (by with_reducible assumption)))); obtain ⟨kcM8, kfM8, kaM8, kgM8, klM8⟩ := kM8.rules; have kN8 : Bk w8 (w6.heap.size) 29 #[.int .i64 R0.x0, .int .i64 R0.y0, .int .i64 R0.x1, .int .i64 R0.y1, .slice A6 n0 c6] := (by repeat (first | (with_reducible assumption) | ((with_reducible refine Bk.new _ _ _ ?_); first | (with_reducible rfl) | (simp; done)) | (with_reducible refine Bk.alloc ?_ _) | (with_reducible refine Bk.drew ?_) | (with_reducible refine Bk.drewN ?_ _) | ((with_reducible refine Bk.far ?_ ?_ _); rotate_left; focus (first | (simp; done) | (simp; omega))) | (with_reducible refine Bk.below ?_ (by with_reducible assumption)))); obtain ⟨kcN8, kfN8, kaN8, kgN8, klN8⟩ := kN8.rules
            obtain ⟨A8, c8, hv8, hr8, _⟩ := ho8.form encB_len
            rw [Hn1.out] at hv8
            subst hv8
            have HR8 := Lib.hid hr8
            clear hr8
            
            skip
            go_wp2_with fail
            refine (rmequal_any R0 R0 A5 A6 n0 n0 c5 c6 L0 L0 _ (HR5.out.below (by repeat (first | (with_reducible exact Below.refl _ _) | (with_reducible refine balloc ?_ _) | (with_reducible refine Below.drew ?_) | (with_reducible refine bdrewN ?_ _) | ((with_reducible refine bset ?_ ?_ _); rotate_left; focus (first | (with_reducible exact Nat.le_refl _) | (simp; done) | (simp; omega) | omega)) | (with_reducible refine bstep (by with_reducible assumption) ?_)))) (HR6.out.below (by repeat (first | (with_reducible exact Below.refl _ _) | (with_reducible refine balloc ?_ _) | (with_reducible refine Below.drew ?_) | (with_reducible refine bdrewN ?_ _) | ((with_reducible refine bset ?_ ?_ _); rotate_left; focus (first | (with_reducible exact Nat.le_refl _) | (simp; done) | (simp; omega) | omega)) | (with_reducible refine bstep (by with_reducible assumption) ?_)))) Hn0.out Hn0.out (by omega) (by omega) true ⟨fun _ => ⟨rfl, rfl⟩, fun _ => rfl⟩).mono ?_
            rintro e w9 ⟨rfl, hb9⟩
            clear kcM8 kfM8 kaM8 kgM8 kcN8 kfN8 kaN8 kgN8
            have kU9 : Bk w9 (w7.heap.size) 29 #[.int .i64 R1.x0, .int .i64 R1.y0, .int .i64 R1.x1, .int .i64 R1.y1, .slice A7 n1 c7] := (by repeat (first | (with_reducible assumption) | ((with_reducible refine Bk.new _ _ _ ?_); first | (with_reducible rfl) | (simp; done)) | (with_reducible refine Bk.alloc ?_ _) | (with_reducible refine Bk.drew ?_) | (with_reducible refine Bk.drewN ?_ _) | ((with_reducible refine Bk.far ?_ ?_ _); rotate_left; focus (first | (simp; done) | (simp; omega))) | (with_reducible refine Bk.below ?_ (by with_reducible assumption)))); obtain ⟨kcU9, kfU9, kaU9, kgU9, klU9⟩ := kU9.rules; have kV9 : Bk w9 (w8.heap.size) 29 #[.int .i64 R1.x0, .int .i64 R1.y0, .int .i64 R1.x1, .int .i64 R1.y1, .slice A8 n1 c8] := (by repeat (first | (with_reducible assumption) | ((with_reducible refine Bk.new _ _ _ ?_); first | (with_reducible rfl) | (simp; done)) | (with_reducible refine Bk.alloc ?_ _) | (with_reducible refine Bk.drew ?_) | (with_reducible refine Bk.drewN ?_ _) | ((with_reducible refine Bk.far ?_ ?_ _); rotate_left; focus (first | (simp; done) | (simp; omega))) | (with_reducible refine Bk.below ?_ (by with_reducible assumption)))); obtain ⟨kcV9, kfV9, kaV9, kgV9, klV9⟩ := kV9.rules
            go_wp2_with fail
            refine (rmequal_any R1 R1 A7 A8 n1 n1 c7 c8 L1 L1 _ (HR7.out.below (by repeat (first | (with_reducible exact Below.refl _ _) | (with_reducible refine balloc ?_ _) | (with_reducible refine Below.drew ?_) | (with_reducible refine bdrewN ?_ _) | ((with_reducible refine bset ?_ ?_ _); rotate_left; focus (first | (with_reducible exact Nat.le_refl _) | (simp; done) | (simp; omega) | omega)) | (with_reducible refine bstep (by with_reducible assumption) ?_)))) (HR8.out.below (by repeat (first | (with_reducible exact Below.refl _ _) | (with_reducible refine balloc ?_ _) | (with_reducible refine Below.drew ?_) | (with_reducible refine bdrewN ?_ _) | ((with_reducible refine bset ?_ ?_ _); rotate_left; focus (first | (with_reducible exact Nat.le_refl _) | (simp; done) | (simp; omega) | omega)) | (with_reducible refine bstep (by with_reducible assumption) ?_)))) Hn1.out Hn1.out (by omega) (by omega) true ⟨fun _ => ⟨rfl, rfl⟩, fun _ => rfl⟩).mono ?_
            rintro e w10 ⟨rfl, hb10⟩
            clear kcU9 kfU9 kaU9 kgU9 kcV9 kfV9 kaV9 kgV9
            have kA10 : Bk w10 (w.heap.size) 29 #[.int .i64 a.r.x0, .int .i64 a.r.y0, .int .i64 a.r.x1, .int .i64 a.r.y1, .slice a.A a.n a.c] := (by repeat (first | (with_reducible assumption) | ((with_reducible refine Bk.new _ _ _ ?_); first | (with_reducible rfl) | (simp; done)) | (with_reducible refine Bk.alloc ?_ _) | (with_reducible refine Bk.drew ?_) | (with_reducible refine Bk.drewN ?_ _) | ((with_reducible refine Bk.far ?_ ?_ _); rotate_left; focus (first | (simp; done) | (simp; omega))) | (with_reducible refine Bk.below ?_ (by with_reducible assumption)))); obtain ⟨kcA10, kfA10, kaA10, kgA10, klA10⟩ := kA10.rules
            go_wp2_with fail
            refine (rmvalid_any a.r a.A a.n a.c a.l _ (HA.out.rd.below (by repeat (first | (with_reducible exact Below.refl _ _) | (with_reducible refine balloc ?_ _) | (with_reducible refine Below.drew ?_) | (with_reducible refine bdrewN ?_ _) | ((with_reducible refine bset ?_ ?_ _); rotate_left; focus (first | (with_reducible exact Nat.le_refl _) | (simp; done) | (simp; omega) | omega)) | (with_reducible refine bstep (by with_reducible assumption) ?_)))) HA.out.ln (by omega) false Hva).mono ?_
            rintro e w11 ⟨rfl, hb11⟩
            clear kcA10 kfA10 kaA10 kgA10
            go_wp2_with fail
            refine (ex_any _).mono ?_
            rintro e w12 ⟨rfl, hb12⟩
            go_wp2
            go_ret
            exact ⟨rfl, (by repeat (first | (with_reducible exact Below.refl _ _) | (with_reducible refine balloc ?_ _) | (with_reducible refine Below.drew ?_) | (with_reducible refine bdrewN ?_ _) | ((with_reducible refine bset ?_ ?_ _); rotate_left; focus (first | (with_reducible exact Nat.le_refl _) | (simp; done) | (simp; omega) | omega)) | (with_reducible refine bstep (by with_reducible assumption) ?_)))⟩
          | true =>
            have hvb : vMk b = false := by have h := hv; unfold unB at h; rw [hva] at h; simpa using h
            have Hva : Hid (mkValid a.r a.l = true) := hva
            have Hvb : Hid (mkValid b.r b.l = false) := hvb
            clear hv hva hvb
            go_enter Try.func7, Try.ntmps7
            go_wp2_with fail
            refine (small_any a.r a.A a.n a.c _ true HSa).mono ?_
            rintro e w1 ⟨rfl, hb1⟩
            have kB1 : Bk w1 (w.heap.size + 1) 29 #[.int .i64 b.r.x0, .int .i64 b.r.y0, .int .i64 b.r.x1, .int .i64 b.r.y1, .slice b.A b.n b.c] := (by repeat (first | (with_reducible assumption) | ((with_reducible refine Bk.new _ _ _ ?_); first | (with_reducible rfl) | (simp; done)) | (with_reducible refine Bk.alloc ?_ _) | (with_reducible refine Bk.drew ?_) | (with_reducible refine Bk.drewN ?_ _) | ((with_reducible refine Bk.far ?_ ?_ _); rotate_left; focus (first | (simp; done) | (simp; omega))) | (with_reducible refine Bk.below ?_ (by with_reducible assumption)))); obtain ⟨kcB1, kfB1, kaB1, kgB1, klB1⟩ := kB1.rules
            go_wp2_with fail
            refine (small_any b.r b.A b.n b.c _ true HSb).mono ?_
            rintro e w2 ⟨rfl, hb2⟩
            clear kcB1 kfB1 kaB1 kgB1
            have kA2 : Bk w2 (w.heap.size) 29 #[.int .i64 a.r.x0, .int .i64 a.r.y0, .int .i64 a.r.x1, .int .i64 a.r.y1, .slice a.A a.n a.c] := (by repeat (first | (with_reducible assumption) | ((with_reducible refine Bk.new _ _ _ ?_); first | (with_reducible rfl) | (simp; done)) | (with_reducible refine Bk.alloc ?_ _) | (with_reducible refine Bk.drew ?_) | (with_reducible refine Bk.drewN ?_ _) | ((with_reducible refine Bk.far ?_ ?_ _); rotate_left; focus (first | (simp; done) | (simp; omega))) | (with_reducible refine Bk.below ?_ (by with_reducible assumption)))); obtain ⟨kcA2, kfA2, kaA2, kgA2, klA2⟩ := kA2.rules; have kB2 : Bk w2 (w.heap.size + 1) 29 #[.int .i64 b.r.x0, .int .i64 b.r.y0, .int .i64 b.r.x1, .int .i64 b.r.y1, .slice b.A b.n b.c] := (by repeat (first | (with_reducible assumption) | ((with_reducible refine Bk.new _ _ _ ?_); first | (with_reducible rfl) | (simp; done)) | (with_reducible refine Bk.alloc ?_ _) | (with_reducible refine Bk.drew ?_) | (with_reducible refine Bk.drewN ?_ _) | ((with_reducible refine Bk.far ?_ ?_ _); rotate_left; focus (first | (simp; done) | (simp; omega))) | (with_reducible refine Bk.below ?_ (by with_reducible assumption)))); obtain ⟨kcB2, kfB2, kaB2, kgB2, klB2⟩ := kB2.rules
            go_wp2_with fail
            refine (runion_q _ _ _ _ _ _ _ _ U HU' _).mono ?_
            rintro e w3 ⟨rfl, hb3⟩
            clear kcA2 kfA2 kaA2 kgA2 kcB2 kfB2 kaB2 kgB2
            have kA3 : Bk w3 (w.heap.size) 29 #[.int .i64 a.r.x0, .int .i64 a.r.y0, .int .i64 a.r.x1, .int .i64 a.r.y1, .slice a.A a.n a.c] := (by repeat (first | (with_reducible assumption) | ((with_reducible refine Bk.new _ _ _ ?_); first | (with_reducible rfl) | (simp; done)) | (with_reducible refine Bk.alloc ?_ _) | (with_reducible refine Bk.drew ?_) | (with_reducible refine Bk.drewN ?_ _) | ((with_reducible refine Bk.far ?_ ?_ _); rotate_left; focus (first | (simp; done) | (simp; omega))) | (with_reducible refine Bk.below ?_ (by with_reducible assumption)))); obtain ⟨kcA3, kfA3, kaA3, kgA3, klA3⟩ := kA3.rules; have kB3 : Bk w3 (w.heap.size + 1) 29 #[.int .i64 b.r.x0, .int .i64 b.r.y0, .int .i64 b.r.x1, .int .i64 b.r.y1, .slice b.A b.n b.c] := (by repeat (first | (with_reducible assumption) | ((with_reducible refine Bk.new _ _ _ ?_); first | (with_reducible rfl) | (simp; done)) | (with_reducible refine Bk.alloc ?_ _) | (with_reducible refine Bk.drew ?_) | (with_reducible refine Bk.drewN ?_ _) | ((with_reducible refine Bk.far ?_ ?_ _); rotate_left; focus (first | (simp; done) | (simp; omega))) | (with_reducible refine Bk.below ?_ (by with_reducible assumption)))); obtain ⟨kcB3, kfB3, kaB3, kgB3, klB3⟩ := kB3.rules
            go_wp2_with fail
            refine (HAr.out _).mono ?_
            rintro e w4 ⟨rfl, hb4⟩
            clear kcA3 kfA3 kaA3 kgA3 kcB3 kfB3 kaB3 kgB3
            have kA4 : Bk w4 (w.heap.size) 29 #[.int .i64 a.r.x0, .int .i64 a.r.y0, .int .i64 a.r.x1, .int .i64 a.r.y1, .slice a.A a.n a.c] := (by repeat (first | (with_reducible assumption) | ((with_reducible refine Bk.new _ _ _ ?_); first | (with_reducible rfl) | (simp; done)) | (with_reducible refine Bk.alloc ?_ _) | (with_reducible refine Bk.drew ?_) | (with_reducible refine Bk.drewN ?_ _) | ((with_reducible refine Bk.far ?_ ?_ _); rotate_left; focus (first | (simp; done) | (simp; omega))) | (with_reducible refine Bk.below ?_ (by with_reducible assumption)))); obtain ⟨kcA4, kfA4, kaA4, kgA4, klA4⟩ := kA4.rules; have kB4 : Bk w4 (w.heap.size + 1) 29 #[.int .i64 b.r.x0, .int .i64 b.r.y0, .int .i64 b.r.x1, .int .i64 b.r.y1, .slice b.A b.n b.c] := (by repeat (first | (with_reducible assumption) | ((with_reducible refine Bk.new _ _ _ ?_); first | (with_reducible rfl) | (simp; done)) | (with_reducible refine Bk.alloc ?_ _) | (with_reducible refine Bk.drew ?_) | (with_reducible refine Bk.drewN ?_ _) | ((with_reducible refine Bk.far ?_ ?_ _); rotate_left; focus (first | (simp; done) | (simp; omega))) | (with_reducible refine Bk.below ?_ (by with_reducible assumption)))); obtain ⟨kcB4, kfB4, kaB4, kgB4, klB4⟩ := kB4.rules
            go_wp2_with fail
            refine (HMab.out _ _ _ (rd_of_bk (e := 29) encMk_len (Bk.new _ _ _ (by first | rfl | simp)) rfl) (by omega) (by unfold maxLen; omega) (fun x hx => (HOab.out x hx).below (by repeat (first | (with_reducible exact Below.refl _ _) | (with_reducible refine balloc ?_ _) | (with_reducible refine Below.drew ?_) | (with_reducible refine bdrewN ?_ _) | ((with_reducible refine bset ?_ ?_ _); rotate_left; focus (first | (with_reducible exact Nat.le_refl _) | (simp; done) | (simp; omega) | omega)) | (with_reducible refine bstep (by with_reducible assumption) ?_))))).mono ?_
            rintro e w5 ⟨v5, rfl, ho5, hb5⟩
            clear kcA4 kfA4 kaA4 kgA4 kcB4 kfB4 kaB4 kgB4
            have kA5 : Bk w5 (w.heap.size) 29 #[.int .i64 a.r.x0, .int .i64 a.r.y0, .int .i64 a.r.x1, .int .i64 a.r.y1, .slice a.A a.n a.c] := (by repeat (first | (with_reducible assumption) | ((with_reducible refine Bk.new _ _ _ ?_); first | (with_reducible rfl) | (simp; done)) | (with_reducible refine Bk.alloc ?_ _) | (with_reducible refine Bk.drew ?_) | (with_reducible refine Bk.drewN ?_ _) | ((with_reducible refine Bk.far ?_ ?_ _); rotate_left; focus (first | (simp; done) | (simp; omega))) | (with_reducible refine Bk.below ?_ (by with_reducible assumption)))); obtain ⟨kcA5, kfA5, kaA5, kgA5, klA5⟩ := kA5.rules; have kB5 : Bk w5 (w.heap.size + 1) 29 #[.int .i64 b.r.x0, .int .i64 b.r.y0, .int .i64 b.r.x1, .int .i64 b.r.y1, .slice b.A b.n b.c] := (by repeat (first | (with_reducible assumption) | ((with_reducible refine Bk.new _ _ _ ?_); first | (with_reducible rfl) | (simp; done)) | (with_reducible refine Bk.alloc ?_ _) | (with_reducible refine Bk.drew ?_) | (with_reducible refine Bk.drewN ?_ _) | ((with_reducible refine Bk.far ?_ ?_ _); rotate_left; focus (first | (simp; done) | (simp; omega))) | (with_reducible refine Bk.below ?_ (by with_reducible assumption)))); obtain ⟨kcB5, kfB5, kaB5, kgB5, klB5⟩ := kB5.rules
            obtain ⟨A5, c5, hv5, hr5, _⟩ := ho5.form encB_len
            rw [Hn0.out] at hv5
            subst hv5
            have HR5 := Lib.hid hr5
            clear hr5
            
            skip
            go_wp2_with fail
            refine (HMba.out _ _ _ (rd_of_bk (e := 29) encMk_len (Bk.new _ _ _ (by first | rfl | simp)) rfl) (by omega) (by unfold maxLen; omega) (fun x hx => (HOba.out x hx).below (by repeat (first | (with_reducible exact Below.refl _ _) | (with_reducible refine balloc ?_ _) | (with_reducible refine Below.drew ?_) | (with_reducible refine bdrewN ?_ _) | ((with_reducible refine bset ?_ ?_ _); rotate_left; focus (first | (with_reducible exact Nat.le_refl _) | (simp; done) | (simp; omega) | omega)) | (with_reducible refine bstep (by with_reducible assumption) ?_))))).mono ?_
            rintro e w6 ⟨v6, rfl, ho6, hb6⟩
            clear kcA5 kfA5 kaA5 kgA5 kcB5 kfB5 kaB5 kgB5
            have kA6 : Bk w6 (w.heap.size) 29 #[.int .i64 a.r.x0, .int .i64 a.r.y0, .int .i64 a.r.x1, .int .i64 a.r.y1, .slice a.A a.n a.c] := (by repeat (first | (with_reducible assumption) | ((with_reducible refine Bk.new _ _ _ ?_); first | (with_reducible rfl) | (simp; done)) | (with_reducible refine Bk.alloc ?_ _) | (with_reducible refine Bk.drew ?_) | (with_reducible refine Bk.drewN ?_ _) | ((with_reducible refine Bk.far ?_ ?_ _); rotate_left; focus (first | (simp; done) | (simp; omega))) | (with_reducible refine Bk.below ?_ (by with_reducible assumption)))); obtain ⟨kcA6, kfA6, kaA6, kgA6, klA6⟩ := kA6.rules; have kB6 : Bk w6 (w.heap.size + 1) 29 #[.int .i64 b.r.x0, .int .i64 b.r.y0, .int .i64 b.r.x1, .int .i64 b.r.y1, .slice b.A b.n b.c] := (by repeat (first | (with_reducible assumption) | ((with_reducible refine Bk.new _ _ _ ?_); first | (with_reducible rfl) | (simp; done)) | (with_reducible refine Bk.alloc ?_ _) | (with_reducible refine Bk.drew ?_) | (with_reducible refine Bk.drewN ?_ _) | ((with_reducible refine Bk.far ?_ ?_ _); rotate_left; focus (first | (simp; done) | (simp; omega))) | (with_reducible refine Bk.below ?_ (by with_reducible assumption)))); obtain ⟨kcB6, kfB6, kaB6, kgB6, klB6⟩ := kB6.rules
            obtain ⟨A6, c6, hv6, hr6, _⟩ := ho6.form encB_len
            rw [Hn0.out] at hv6
            subst hv6
            have HR6 := Lib.hid hr6
            clear hr6
            
            skip
            go_wp2_with fail
            refine (HUab.out _ (HA.out.below (by repeat (first | (with_reducible exact Below.refl _ _) | (with_reducible refine balloc ?_ _) | (with_reducible refine Below.drew ?_) | (with_reducible refine bdrewN ?_ _) | ((with_reducible refine bset ?_ ?_ _); rotate_left; focus (first | (with_reducible exact Nat.le_refl _) | (simp; done) | (simp; omega) | omega)) | (with_reducible refine bstep (by with_reducible assumption) ?_)))) (HB.out.below (by repeat (first | (with_reducible exact Below.refl _ _) | (with_reducible refine balloc ?_ _) | (with_reducible refine Below.drew ?_) | (with_reducible refine bdrewN ?_ _) | ((with_reducible refine bset ?_ ?_ _); rotate_left; focus (first | (with_reducible exact Nat.le_refl _) | (simp; done) | (simp; omega) | omega)) | (with_reducible refine bstep (by with_reducible assumption) ?_))))).mono ?_
            rintro e w7 ⟨v7, rfl, ho7, hb7⟩
            clear kcA6 kfA6 kaA6 kgA6 kcB6 kfB6 kaB6 kgB6
            have kA7 : Bk w7 (w.heap.size) 29 #[.int .i64 a.r.x0, .int .i64 a.r.y0, .int .i64 a.r.x1, .int .i64 a.r.y1, .slice a.A a.n a.c] := (by repeat (first | (with_reducible assumption) | ((with_reducible refine Bk.new _ _ _ ?_); first | (with_reducible rfl) | (simp; done)) | (with_reducible refine Bk.alloc ?_ _) | (with_reducible refine Bk.drew ?_) | (with_reducible refine Bk.drewN ?_ _) | ((with_reducible refine Bk.far ?_ ?_ _); rotate_left; focus (first | (simp; done) | (simp; omega))) | (with_reducible refine Bk.below ?_ (by with_reducible assumption)))); obtain ⟨kcA7, kfA7, kaA7, kgA7, klA7⟩ := kA7.rules; have kB7 : Bk w7 (w.heap.size + 1) 29 #[.int .i64 b.r.x0, .int .i64 b.r.y0, .int .i64 b.r.x1, .int .i64 b.r.y1, .slice b.A b.n b.c] := (by repeat (first | (with_reducible assumption) | ((with_reducible refine Bk.new _ _ _ ?_); first | (with_reducible rfl) | (simp; done)) | (with_reducible refine Bk.alloc ?_ _) | (with_reducible refine Bk.drew ?_) | (with_reducible refine Bk.drewN ?_ _) | ((with_reducible refine Bk.far ?_ ?_ _); rotate_left; focus (first | (simp; done) | (simp; omega))) | (with_reducible refine Bk.below ?_ (by with_reducible assumption)))); obtain ⟨kcB7, kfB7, kaB7, kgB7, klB7⟩ := kB7.rules
            obtain ⟨A7, c7, hv7, hr7, _⟩ := ho7.form encB_len
            rw [Hn1.out] at hv7
            subst hv7
            have HR7 := Lib.hid hr7
            clear hr7
            
            skip
            go_wp2_with fail
            refine (HUba.out _ (HB.out.below (by repeat (first | (with_reducible exact Below.refl _ _) | (with_reducible refine balloc ?_ _) | (with_reducible refine Below.drew ?_) | (with_reducible refine bdrewN ?_ _) | ((with_reducible refine bset ?_ ?_ _); rotate_left; focus (first | (with_reducible exact Nat.le_refl _) | (simp; done) | (simp; omega) | omega)) | (with_reducible refine bstep (by with_reducible assumption) ?_)))) (HA.out.below (by repeat (first | (with_reducible exact Below.refl _ _) | (with_reducible refine balloc ?_ _) | (with_reducible refine Below.drew ?_) | (with_reducible refine bdrewN ?_ _) | ((with_reducible refine bset ?_ ?_ _); rotate_left; focus (first | (with_reducible exact Nat.le_refl _) | (simp; done) | (simp; omega) | omega)) | (with_reducible refine bstep (by with_reducible assumption) ?_))))).mono ?_
            rintro e w8 ⟨v8, rfl, ho8, hb8⟩
            clear kcA7 kfA7 kaA7 kgA7 kcB7 kfB7 kaB7 kgB7
            have kM8 : Bk w8 (w5.heap.size) 29 #[.int .i64 R0.x0, .int .i64 R0.y0, .int .i64 R0.x1, .int .i64 R0.y1, .slice A5 n0 c5] := (by repeat (first | (with_reducible assumption) | ((with_reducible refine Bk.new _ _ _ ?_); first | (with_reducible rfl) | (simp; done)) | (with_reducible refine Bk.alloc ?_ _) | (with_reducible refine Bk.drew ?_) | (with_reducible refine Bk.drewN ?_ _) | ((with_reducible refine Bk.far ?_ ?_ _); rotate_left; focus (first | (simp; done) | (simp; omega))) | (with_reducible refine Bk.below ?_ (by with_reducible assumption)))); obtain ⟨kcM8, kfM8, kaM8, kgM8, klM8⟩ := kM8.rules; have kN8 : Bk w8 (w6.heap.size) 29 #[.int .i64 R0.x0, .int .i64 R0.y0, .int .i64 R0.x1, .int .i64 R0.y1, .slice A6 n0 c6] := (by repeat (first | (with_reducible assumption) | ((with_reducible refine Bk.new _ _ _ ?_); first | (with_reducible rfl) | (simp; done)) | (with_reducible refine Bk.alloc ?_ _) | (with_reducible refine Bk.drew ?_) | (with_reducible refine Bk.drewN ?_ _) | ((with_reducible refine Bk.far ?_ ?_ _); rotate_left; focus (first | (simp; done) | (simp; omega))) | (with_reducible refine Bk.below ?_ (by with_reducible assumption)))); obtain ⟨kcN8, kfN8, kaN8, kgN8, klN8⟩ := kN8.rules
            obtain ⟨A8, c8, hv8, hr8, _⟩ := ho8.form encB_len
            rw [Hn1.out] at hv8
            subst hv8
            have HR8 := Lib.hid hr8
            clear hr8
            
            skip
            go_wp2_with fail
            refine (rmequal_any R0 R0 A5 A6 n0 n0 c5 c6 L0 L0 _ (HR5.out.below (by repeat (first | (with_reducible exact Below.refl _ _) | (with_reducible refine balloc ?_ _) | (with_reducible refine Below.drew ?_) | (with_reducible refine bdrewN ?_ _) | ((with_reducible refine bset ?_ ?_ _); rotate_left; focus (first | (with_reducible exact Nat.le_refl _) | (simp; done) | (simp; omega) | omega)) | (with_reducible refine bstep (by with_reducible assumption) ?_)))) (HR6.out.below (by repeat (first | (with_reducible exact Below.refl _ _) | (with_reducible refine balloc ?_ _) | (with_reducible refine Below.drew ?_) | (with_reducible refine bdrewN ?_ _) | ((with_reducible refine bset ?_ ?_ _); rotate_left; focus (first | (with_reducible exact Nat.le_refl _) | (simp; done) | (simp; omega) | omega)) | (with_reducible refine bstep (by with_reducible assumption) ?_)))) Hn0.out Hn0.out (by omega) (by omega) true ⟨fun _ => ⟨rfl, rfl⟩, fun _ => rfl⟩).mono ?_
            rintro e w9 ⟨rfl, hb9⟩
            clear kcM8 kfM8 kaM8 kgM8 kcN8 kfN8 kaN8 kgN8
            have kU9 : Bk w9 (w7.heap.size) 29 #[.int .i64 R1.x0, .int .i64 R1.y0, .int .i64 R1.x1, .int .i64 R1.y1, .slice A7 n1 c7] := (by repeat (first | (with_reducible assumption) | ((with_reducible refine Bk.new _ _ _ ?_); first | (with_reducible rfl) | (simp; done)) | (with_reducible refine Bk.alloc ?_ _) | (with_reducible refine Bk.drew ?_) | (with_reducible refine Bk.drewN ?_ _) | ((with_reducible refine Bk.far ?_ ?_ _); rotate_left; focus (first | (simp; done) | (simp; omega))) | (with_reducible refine Bk.below ?_ (by with_reducible assumption)))); obtain ⟨kcU9, kfU9, kaU9, kgU9, klU9⟩ := kU9.rules; have kV9 : Bk w9 (w8.heap.size) 29 #[.int .i64 R1.x0, .int .i64 R1.y0, .int .i64 R1.x1, .int .i64 R1.y1, .slice A8 n1 c8] := (by repeat (first | (with_reducible assumption) | ((with_reducible refine Bk.new _ _ _ ?_); first | (with_reducible rfl) | (simp; done)) | (with_reducible refine Bk.alloc ?_ _) | (with_reducible refine Bk.drew ?_) | (with_reducible refine Bk.drewN ?_ _) | ((with_reducible refine Bk.far ?_ ?_ _); rotate_left; focus (first | (simp; done) | (simp; omega))) | (with_reducible refine Bk.below ?_ (by with_reducible assumption)))); obtain ⟨kcV9, kfV9, kaV9, kgV9, klV9⟩ := kV9.rules
            go_wp2_with fail
            refine (rmequal_any R1 R1 A7 A8 n1 n1 c7 c8 L1 L1 _ (HR7.out.below (by repeat (first | (with_reducible exact Below.refl _ _) | (with_reducible refine balloc ?_ _) | (with_reducible refine Below.drew ?_) | (with_reducible refine bdrewN ?_ _) | ((with_reducible refine bset ?_ ?_ _); rotate_left; focus (first | (with_reducible exact Nat.le_refl _) | (simp; done) | (simp; omega) | omega)) | (with_reducible refine bstep (by with_reducible assumption) ?_)))) (HR8.out.below (by repeat (first | (with_reducible exact Below.refl _ _) | (with_reducible refine balloc ?_ _) | (with_reducible refine Below.drew ?_) | (with_reducible refine bdrewN ?_ _) | ((with_reducible refine bset ?_ ?_ _); rotate_left; focus (first | (with_reducible exact Nat.le_refl _) | (simp; done) | (simp; omega) | omega)) | (with_reducible refine bstep (by with_reducible assumption) ?_)))) Hn1.out Hn1.out (by omega) (by omega) true ⟨fun _ => ⟨rfl, rfl⟩, fun _ => rfl⟩).mono ?_
            rintro e w10 ⟨rfl, hb10⟩
            clear kcU9 kfU9 kaU9 kgU9 kcV9 kfV9 kaV9 kgV9
            have kA10 : Bk w10 (w.heap.size) 29 #[.int .i64 a.r.x0, .int .i64 a.r.y0, .int .i64 a.r.x1, .int .i64 a.r.y1, .slice a.A a.n a.c] := (by repeat (first | (with_reducible assumption) | ((with_reducible refine Bk.new _ _ _ ?_); first | (with_reducible rfl) | (simp; done)) | (with_reducible refine Bk.alloc ?_ _) | (with_reducible refine Bk.drew ?_) | (with_reducible refine Bk.drewN ?_ _) | ((with_reducible refine Bk.far ?_ ?_ _); rotate_left; focus (first | (simp; done) | (simp; omega))) | (with_reducible refine Bk.below ?_ (by with_reducible assumption)))); obtain ⟨kcA10, kfA10, kaA10, kgA10, klA10⟩ := kA10.rules
            go_wp2_with fail
            refine (rmvalid_any a.r a.A a.n a.c a.l _ (HA.out.rd.below (by repeat (first | (with_reducible exact Below.refl _ _) | (with_reducible refine balloc ?_ _) | (with_reducible refine Below.drew ?_) | (with_reducible refine bdrewN ?_ _) | ((with_reducible refine bset ?_ ?_ _); rotate_left; focus (first | (with_reducible exact Nat.le_refl _) | (simp; done) | (simp; omega) | omega)) | (with_reducible refine bstep (by with_reducible assumption) ?_)))) HA.out.ln (by omega) true Hva).mono ?_
            rintro e w11 ⟨rfl, hb11⟩
            clear kcA10 kfA10 kaA10 kgA10
            have kB11 : Bk w11 (w.heap.size + 1) 29 #[.int .i64 b.r.x0, .int .i64 b.r.y0, .int .i64 b.r.x1, .int .i64 b.r.y1, .slice b.A b.n b.c] := (by repeat (first | (with_reducible assumption) | ((with_reducible refine Bk.new _ _ _ ?_); first | (with_reducible rfl) | (simp; done)) | (with_reducible refine Bk.alloc ?_ _) | (with_reducible refine Bk.drew ?_) | (with_reducible refine Bk.drewN ?_ _) | ((with_reducible refine Bk.far ?_ ?_ _); rotate_left; focus (first | (simp; done) | (simp; omega))) | (with_reducible refine Bk.below ?_ (by with_reducible assumption)))); obtain ⟨kcB11, kfB11, kaB11, kgB11, klB11⟩ := kB11.rules
            go_wp2_with fail
            refine (rmvalid_any b.r b.A b.n b.c b.l _ (HB.out.rd.below (by repeat (first | (with_reducible exact Below.refl _ _) | (with_reducible refine balloc ?_ _) | (with_reducible refine Below.drew ?_) | (with_reducible refine bdrewN ?_ _) | ((with_reducible refine bset ?_ ?_ _); rotate_left; focus (first | (with_reducible exact Nat.le_refl _) | (simp; done) | (simp; omega) | omega)) | (with_reducible refine bstep (by with_reducible assumption) ?_)))) HB.out.ln (by omega) false Hvb).mono ?_
            rintro e w12 ⟨rfl, hb12⟩
            clear kcB11 kfB11 kaB11 kgB11
            go_wp2_with fail
            refine (ex_any _).mono ?_
            rintro e w13 ⟨rfl, hb13⟩
            go_wp2
            go_ret
            exact ⟨rfl, (by repeat (first | (with_reducible exact Below.refl _ _) | (with_reducible refine balloc ?_ _) | (with_reducible refine Below.drew ?_) | (with_reducible refine bdrewN ?_ _) | ((with_reducible refine bset ?_ ?_ _); rotate_left; focus (first | (with_reducible exact Nat.le_refl _) | (simp; done) | (simp; omega) | omega)) | (with_reducible refine bstep (by with_reducible assumption) ?_)))⟩

set_option maxRecDepth 100000 in
theorem lifted_MaskOrder (os : Os) (started : os.Started) (H : Type) (enc : TypeId × Value → H) :
    ReturnsInHanded {} Try.checked os 7 .any (Rows.maskOrderSpec.pre6 enc Try.prog Try.f7 Rows.maskOrderRow.domain false) (Rows.maskOrderSpec.post enc Try.prog Try.f7 false true false false) := by
  refine returnsInHanded_of_change (C := Try.checked) Try.own started (by kernel_rfl) Try.func7
    (ChangeSpec.witness6 (enc := enc) (C := Try.checked) false ⟨#[], #[.agg #[.int .i64 0, .int .i64 0, .int .i64 0, .int .i64 0, .slice none 0 0], .agg #[.int .i64 0, .int .i64 0, .int .i64 0, .int .i64 0, .slice none 0 0]], []⟩ 8 (by kernel_rfl) (by kernel_rfl) (by kernel_rfl) (by kernel_rfl)) ?_
  intro W base args ds gs before hval0 hW hcnd _
  have hval : ∀ (j : Nat) t v, Try.f7.params[j]? = some t → args[j]? = some v → Value.okWide Try.prog W .any base t v := hval0
  have hW' := hW
  obtain ⟨p, q, hA0, hV, rfl, hfz, hnd⟩ := hW
  have hA : DataW.TrodAll enc Try.prog W 0 (fun _ => true) true Try.f7.params.toList args.toList ds p := hA0
  rw [Try.params7] at hA hval
  obtain ⟨v0, vs0, d0, ds0, p0, q0, hargs, rfl, rfl, h0, r0⟩ := trodAll_cons hA
  obtain ⟨v1, vs1, d1, ds1, p1, q1, rfl, rfl, rfl, h1, r1⟩ := trodAll_cons r0
  obtain ⟨rfl, rfl, rfl⟩ := trodAll_nil r1
  obtain rfl : args = #[v0, v1] := by cases args; simp_all
  obtain ⟨b0, rfl, ho0⟩ := openMk (hval 0 29 v0 rfl rfl) h0
  obtain ⟨b1, rfl, ho1⟩ := openMk (hval 1 29 v1 rfl rfl) h1
  refine (walk_MaskOrder b0 b1 W ho0 ho1).mono fun e W' ⟨he, hb⟩ => ?_
  subst he
  exact ⟨_, rfl, law_post (tb := 4) Try.laidOut (by kernel_rfl) hW' rfl rfl Try.underlying4 rfl rfl rfl hb⟩

theorem MaskOrder_holds : Rows.MaskOrderSaid :=
  OpenClaim.holds_of_wide 7 Try.f7 rfl rfl rfl rfl rfl rfl rfl ⟨rfl, rfl, rfl, rfl, rfl⟩ rfl rfl rfl rfl rfl (by kernel_rfl) Try.func7 (by kernel_rfl)
    (of_decide_eq_true (by kernel_rfl)) (by unfold Func.isWrapper; first | (rw [if_pos (by decide +kernel)]; kernel_rfl) | (rw [if_neg (by decide +kernel)]; exact ⟨rfl, rfl⟩))
    (fun os started H enc _ => lifted_MaskOrder os started H enc)
#print axioms MaskOrder_holds
end Go.Proofs.Ytndablijjkchjaa
