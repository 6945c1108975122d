/- RectPackPrefix: for all numbers, every slice of sizes and every n the law grisaillelaw09.RectPackPrefix returns true. No conditions. -/
import Derived.Test.YtiaeaegocfmjhaaPackL
import Derived.Test.YtiaeaegocfmjhaaPackQ
namespace Go.Proofs.Ytiaeaegocfmjhaa
open Go.ChangeShapes Go.WideShapes Go.ChangeAt Go.RowKit
set_option linter.unusedSimpArgs false
set_option linter.unusedVariables false

set_option maxHeartbeats 1600000 in
theorem walk_RectPackPrefix (pw ph pt : Int) (A : Option Addr) (n c : Nat) (l : List (Int × Int)) (x : Int) (w : World) (_ : -9223372036854775808 ≤ pw ∧ pw ≤ 9223372036854775807) (_ : -9223372036854775808 ≤ ph ∧ ph ≤ 9223372036854775807) (_ : -9223372036854775808 ≤ pt ∧ pt ≤ 9223372036854775807) (hr : RdL encZ 2 w A l) (hn : l.length = n) (hq : ∀ z ∈ l, True) (hc : n ≤ c) (hm : c ≤ maxLen) :
    Calls Try.prog 10 #[.agg #[.int .i64 pw, .int .i64 ph, .int .i64 pt], .slice A n c, .int .i64 x] w fun e w' => e = .returned (.bool true) ∧ Below w.heap.size w w' := by
  obtain ⟨o, Ho⟩ : ∃ o, Hid (packR pw ph l = o) := ⟨_, rfl⟩
  have HR := Lib.hid hr
  have Hn := Lib.hid hn
  clear hr hn hq
  obtain ⟨k, hk0, Hk⟩ : ∃ k : Nat, k ≤ n ∧ Hid (max (0 : Int) (min x (n : Int)) = (k : Int)) := ⟨(max (0 : Int) (min x (n : Int))).toNat, by omega, by unfold Hid; omega⟩
  have hmx := max_if
  have hmn := min_if
  have hk1 := Hk.out
  have hk2 : k ≤ c := by omega
  cases h1 : decide ((40 : Int) < (n : Int)) with
  | true =>
    go_enter Try.func10, Try.ntmps10
    go_wp2_with fail
    refine wp_region_gob 9 [(0, true), (1, true), (2, true), (3, true), (4, true), (5, true), (6, true), (7, true), (8, true)] (by kernel_rfl) (by kernel_rfl) (fun c a d v w h => by cases d <;> exact h) ?_
    repeat (refine wpGo_pure (v := ?_) rfl rfl (fun w' hS => ?_) ?_; rotate_left; (· have kQp : Bk w' (w.heap.size) 47 #[.int .i64 pw, .int .i64 ph, .int .i64 pt] := (by repeat (first | (with_reducible assumption) | ((with_reducible refine Bk.new _ _ _ ?_); first | (with_reducible rfl) | (simp; done)) | (with_reducible refine Bk.alloc ?_ _) | (with_reducible refine Bk.drew ?_) | (with_reducible refine Bk.drewN ?_ _) | ((with_reducible refine Bk.far ?_ ?_ _); rotate_left; focus (first | (simp; done) | (simp; omega))) | (with_reducible refine Bk.below ?_ (by with_reducible assumption)))); obtain ⟨kcQp, kfQp, kaQp, kgQp, klQp⟩ := kQp.rules; go_simp; exact rfl); (try simp only [Act.put, List.setIfInBounds_toArray, List.set_cons_zero, List.set_cons_succ]))
    refine wpGo_nil ?_
    simp only [List.drop_succ_cons, List.drop_zero]
    go_wp2_with fail
    refine (ex_any _).mono ?_
    rintro e w1 ⟨rfl, hb1⟩
    go_wp2
    go_ret
    exact ⟨rfl, (by repeat (first | (with_reducible exact Below.refl _ _) | (with_reducible refine balloc ?_ _) | (with_reducible refine Below.drew ?_) | (with_reducible refine bdrewN ?_ _) | ((with_reducible refine bset ?_ ?_ _); rotate_left; focus (first | (with_reducible exact Nat.le_refl _) | (simp; done) | (simp; omega) | omega)) | (with_reducible refine bstep (by with_reducible assumption) ?_)))⟩
  | false =>
    have hn40 : n ≤ 40 := by have := of_decide_eq_false h1; omega
    go_enter Try.func10, Try.ntmps10
    go_wp2_with fail
    refine wp_region_gob 9 [(0, true), (1, true), (2, true), (3, true), (4, true), (5, true), (6, true), (7, true), (8, true)] (by kernel_rfl) (by kernel_rfl) (fun c a d v w h => by cases d <;> exact h) ?_
    repeat (refine wpGo_pure (v := ?_) rfl rfl (fun w' hS => ?_) ?_; rotate_left; (· have kQp : Bk w' (w.heap.size) 47 #[.int .i64 pw, .int .i64 ph, .int .i64 pt] := (by repeat (first | (with_reducible assumption) | ((with_reducible refine Bk.new _ _ _ ?_); first | (with_reducible rfl) | (simp; done)) | (with_reducible refine Bk.alloc ?_ _) | (with_reducible refine Bk.drew ?_) | (with_reducible refine Bk.drewN ?_ _) | ((with_reducible refine Bk.far ?_ ?_ _); rotate_left; focus (first | (simp; done) | (simp; omega))) | (with_reducible refine Bk.below ?_ (by with_reducible assumption)))); obtain ⟨kcQp, kfQp, kaQp, kgQp, klQp⟩ := kQp.rules; go_simp; exact rfl); (try simp only [Act.put, List.setIfInBounds_toArray, List.set_cons_zero, List.set_cons_succ]))
    refine wpGo_nil ?_
    simp only [List.drop_succ_cons, List.drop_zero]
    go_wp2_with fail
    refine (pack_any pw ph A n c l _ (HR.out.below (by repeat (first | (with_reducible exact Below.refl _ _) | (with_reducible refine balloc ?_ _) | (with_reducible refine Below.drew ?_) | (with_reducible refine bdrewN ?_ _) | ((with_reducible refine bset ?_ ?_ _); rotate_left; focus (first | (with_reducible exact Nat.le_refl _) | (simp; done) | (simp; omega) | omega)) | (with_reducible refine bstep (by with_reducible assumption) ?_)))) Hn.out).mono ?_
    rw [Ho.out]
    rintro e w1 ⟨v1, rfl, ho1, hb1⟩
    obtain ⟨A1, c1, rfl, hr1, hcc1⟩ := ho1.form encR_len
    cases o with
    | none =>
      go_wp2_with fail
      refine (ex_any _).mono ?_
      rintro e w2 ⟨rfl, hb2⟩
      go_wp2
      go_ret
      exact ⟨rfl, (by repeat (first | (with_reducible exact Below.refl _ _) | (with_reducible refine balloc ?_ _) | (with_reducible refine Below.drew ?_) | (with_reducible refine bdrewN ?_ _) | ((with_reducible refine bset ?_ ?_ _); rotate_left; focus (first | (with_reducible exact Nat.le_refl _) | (simp; done) | (simp; omega) | omega)) | (with_reducible refine bstep (by with_reducible assumption) ?_)))⟩
    | some os =>
      have hlen : os.length = n := (pack_len Ho.out).1.trans Hn.out
      simp only [Option.getD_some, Option.isSome_some] at hr1 hcc1 ⊢
      rw [hlen] at hcc1 ⊢
      have hk3 : k ≤ c1 := by omega
      have Hl : Hid (l.length = n ∧ os.length = n) := ⟨Hn.out, hlen⟩
      have HT := Lib.hid (pack_take Ho.out k)
      have hro : Hid (RdL encR 4 w1 A1 os) := hr1
      clear hlen hr1 ho1
      go_wp2_with fail
      refine (pack_any pw ph A k c (l.take k) _ ((HR.out.below (by repeat (first | (with_reducible exact Below.refl _ _) | (with_reducible refine balloc ?_ _) | (with_reducible refine Below.drew ?_) | (with_reducible refine bdrewN ?_ _) | ((with_reducible refine bset ?_ ?_ _); rotate_left; focus (first | (with_reducible exact Nat.le_refl _) | (simp; done) | (simp; omega) | omega)) | (with_reducible refine bstep (by with_reducible assumption) ?_)))).take k) (by rw [List.length_take, Hn.out]; omega)).mono ?_
      rw [HT.out]
      rintro e w2 ⟨v2, rfl, ho2, hb2⟩
      obtain ⟨A2, c2, rfl, hr2, hcc2⟩ := ho2.form encR_len
      simp only [Option.getD_some, Option.isSome_some] at hr2 hcc2 ⊢
      have hkl : (os.take k).length = k := by rw [List.length_take, Hl.out.2]; omega
      rw [hkl] at hcc2 ⊢
      have hrt := Lib.hid hr2
      have Hkl := Lib.hid hkl
      clear hr2 hkl ho2
      go_wp2_with fail
      refine (eqr_q A2 A1 k k c2 c1 (os.take k) (os.take k) true ((sameB_iff _ _).2 rfl) Hkl Hkl _ hrt.out ((hro.out.below hb2).take k) (by omega) (by omega)).mono ?_
      rintro e w3 ⟨rfl, hb3⟩
      cases h2 : decide (pt < ph) with
      | true =>
        go_wp2_with fail
        refine (ex_any _).mono ?_
        rintro e w4 ⟨rfl, hb4⟩
        go_wp2
        go_ret
        exact ⟨rfl, (by repeat (first | (with_reducible exact Below.refl _ _) | (with_reducible refine balloc ?_ _) | (with_reducible refine Below.drew ?_) | (with_reducible refine bdrewN ?_ _) | ((with_reducible refine bset ?_ ?_ _); rotate_left; focus (first | (with_reducible exact Nat.le_refl _) | (simp; done) | (simp; omega) | omega)) | (with_reducible refine bstep (by with_reducible assumption) ?_)))⟩
      | false =>
        cases h3 : decide ((4096 : Int) < pt) with
        | true =>
          go_wp2_with fail
          refine (ex_any _).mono ?_
          rintro e w4 ⟨rfl, hb4⟩
          go_wp2
          go_ret
          exact ⟨rfl, (by repeat (first | (with_reducible exact Below.refl _ _) | (with_reducible refine balloc ?_ _) | (with_reducible refine Below.drew ?_) | (with_reducible refine bdrewN ?_ _) | ((with_reducible refine bset ?_ ?_ _); rotate_left; focus (first | (with_reducible exact Nat.le_refl _) | (simp; done) | (simp; omega) | omega)) | (with_reducible refine bstep (by with_reducible assumption) ?_)))⟩
        | false =>
          have HU := Lib.hid (pack_taller (t := pt) Ho.out (by simpa using h2) (by simpa using h3))
          go_wp2_with fail
          refine (pack_any pw pt A n c l _ (HR.out.below (by repeat (first | (with_reducible exact Below.refl _ _) | (with_reducible refine balloc ?_ _) | (with_reducible refine Below.drew ?_) | (with_reducible refine bdrewN ?_ _) | ((with_reducible refine bset ?_ ?_ _); rotate_left; focus (first | (with_reducible exact Nat.le_refl _) | (simp; done) | (simp; omega) | omega)) | (with_reducible refine bstep (by with_reducible assumption) ?_)))) Hn.out).mono ?_
          rw [HU.out]
          rintro e w4 ⟨v4, rfl, ho4, hb4⟩
          obtain ⟨A4, c4, rfl, hr4, hcc4⟩ := ho4.form encR_len
          simp only [Option.getD_some, Option.isSome_some] at hr4 hcc4 ⊢
          rw [Hl.out.2] at hcc4 ⊢
          have hr5 := Lib.hid hr4
          clear hr4 ho4
          go_wp2_with fail
          refine (eqr_q A4 A1 n n c4 c1 os os true ((sameB_iff _ _).2 rfl) Hl.out.2 Hl.out.2 _ hr5.out (((hro.out.below hb2).below hb3).below hb4) (by omega) (by omega)).mono ?_
          rintro e w5 ⟨rfl, hb5⟩
          go_wp2_with fail
          refine (ex_any _).mono ?_
          rintro e w6 ⟨rfl, hb6⟩
          go_wp2
          go_ret
          exact ⟨rfl, (by repeat (first | (with_reducible exact Below.refl _ _) | (with_reducible refine balloc ?_ _) | (with_reducible refine Below.drew ?_) | (with_reducible refine bdrewN ?_ _) | ((with_reducible refine bset ?_ ?_ _); rotate_left; focus (first | (with_reducible exact Nat.le_refl _) | (simp; done) | (simp; omega) | omega)) | (with_reducible refine bstep (by with_reducible assumption) ?_)))⟩

set_option maxRecDepth 100000 in
theorem lifted_RectPackPrefix (os : Os) (started : os.Started) (H : Type) (enc : TypeId × Value → H) :
    ReturnsInHanded {} Try.checked os 10 .any (Rows.rectPackPrefixSpec.pre6 enc Try.prog Try.f10 Rows.rectPackPrefixRow.domain false) (Rows.rectPackPrefixSpec.post enc Try.prog Try.f10 false true false false) := by
  refine returnsInHanded_of_change (C := Try.checked) Try.own started (by kernel_rfl) Try.func10
    (ChangeSpec.witness6 (enc := enc) (C := Try.checked) false ⟨#[], #[.agg #[.int .i64 0, .int .i64 0, .int .i64 0], .slice none 0 0, .int .i64 0], []⟩ 8 (by kernel_rfl) (by kernel_rfl) (by kernel_rfl) (by kernel_rfl)) ?_
  intro W base args ds gs before hval0 hW hcnd _
  have hval : ∀ (j : Nat) t v, Try.f10.params[j]? = some t → args[j]? = some v → Value.okWide Try.prog W .any base t v := hval0
  have hW' := hW
  obtain ⟨p, q, hA0, hV, rfl, hfz, hnd⟩ := hW
  have hA : DataW.TrodAll enc Try.prog W 0 (fun _ => true) true Try.f10.params.toList args.toList ds p := hA0
  rw [Try.params10] at hA hval
  obtain ⟨v0, vs0, d0, ds0, p0, q0, hargs, rfl, rfl, h0, r0⟩ := trodAll_cons hA
  obtain ⟨v1, vs1, d1, ds1, p1, q1, rfl, rfl, rfl, h1, r1⟩ := trodAll_cons r0
  obtain ⟨v2, vs2, d2, ds2, p2, q2, rfl, rfl, rfl, h2, r2⟩ := trodAll_cons r1
  obtain ⟨rfl, rfl, rfl⟩ := trodAll_nil r2
  obtain rfl : args = #[v0, v1, v2] := by cases args; simp_all
  obtain ⟨l0, hl0, rfl, hw0⟩ := open_arr Try.underlying47 Try.underlying3 (by kernel_rfl) (by kernel_rfl) (hval 0 47 v0 rfl rfl) h0
  obtain ⟨x00, x01, x02, rfl⟩ := len3 hl0
  obtain ⟨A1, n1, c1, l1, rfl, hl1, hr1, hq1, hc1, hm1⟩ := open_rows (encA := encZ) (size := 2) Try.underlying44 (by kernel_rfl) (by decide) dec_pt (hval 1 44 v1 rfl rfl) h1
  obtain ⟨x2, rfl, _, _, g2⟩ := open_int Try.underlying3 (hval 2 3 v2 rfl rfl) h2
  refine (walk_RectPackPrefix x00 x01 x02 A1 n1 c1 l1 x2 W (bounds_i64 (hw0 x00 (by simp))) (bounds_i64 (hw0 x01 (by simp))) (bounds_i64 (hw0 x02 (by simp))) hr1 hl1 hq1 hc1 hm1).mono fun e W' ⟨he, hb⟩ => ?_
  subst he
  exact ⟨_, rfl, law_post (tb := 4) Try.laidOut (by kernel_rfl) hW' rfl rfl Try.underlying4 rfl rfl rfl hb⟩

theorem RectPackPrefix_holds : Rows.RectPackPrefixSaid :=
  OpenClaim.holds_of_wide 10 Try.f10 rfl rfl rfl rfl rfl rfl rfl ⟨rfl, rfl, rfl, rfl, rfl⟩ rfl rfl rfl rfl rfl (by kernel_rfl) Try.func10 (by kernel_rfl)
    (of_decide_eq_true (by kernel_rfl)) (by unfold Func.isWrapper; first | (rw [if_pos (by decide +kernel)]; kernel_rfl) | (rw [if_neg (by decide +kernel)]; exact ⟨rfl, rfl⟩))
    (fun os started H enc _ => lifted_RectPackPrefix os started H enc)
#print axioms RectPackPrefix_holds
end Go.Proofs.Ytiaeaegocfmjhaa
