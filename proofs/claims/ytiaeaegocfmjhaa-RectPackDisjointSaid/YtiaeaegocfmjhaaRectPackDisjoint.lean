/- RectPackDisjoint: for all w, h and every slice of sizes the law grisaillelaw09.RectPackDisjoint returns true. No conditions. -/
import Derived.Test.YtiaeaegocfmjhaaPackL
import Derived.Test.YtiaeaegocfmjhaaPackQ
namespace Go.Proofs.Ytiaeaegocfmjhaa
open Go.ChangeShapes Go.WideShapes Go.ChangeAt Go.RowKit
set_option linter.unusedSimpArgs false
set_option linter.unusedVariables false

theorem within_b (a b c d a' b' c' d' : Int) (v : Bool) (hv : Hid (withinB ⟨a, b, c, d⟩ ⟨a', b', c', d'⟩ = v)) (w : World) :
    Calls Try.prog 29 #[.agg #[.int .i64 a, .int .i64 b, .int .i64 c, .int .i64 d], .agg #[.int .i64 a', .int .i64 b', .int .i64 c', .int .i64 d']] w fun e w' => e = .returned (.bool v) ∧ Below w.heap.size w w' := by
  have h := hv.out; subst h; exact within_any a b c d a' b' c' d' w
theorem page_within {r : Rc} {pw ph : Int} (h1 : sideB pw = true) (h2 : sideB ph = true) (h : 0 ≤ r.x0 ∧ r.x0 < r.x1 ∧ r.x1 ≤ pw ∧ 0 ≤ r.y0 ∧ r.y0 < r.y1 ∧ r.y1 ≤ ph) : emptyB r = false ∧ withinB r ⟨0, 0, pw, ph⟩ = true := by
  have s1 := sideB_true h1
  have s2 := sideB_true h2
  have e1 : emptyB r = false := (emptyB_iff r).2 (by omega)
  have e2 : emptyB (⟨0, 0, pw, ph⟩ : Rc) = false := (emptyB_iff _).2 (by simp only; omega)
  exact ⟨e1, within_of fun _ => ⟨e2, by simp only; omega⟩⟩
theorem apart_symm {p q : Rc} (h : apartR p q) : apartR q p := by unfold apartR at *; omega
set_option maxRecDepth 100000 in
set_option maxHeartbeats 4000000 in
theorem walk_RectPackDisjoint (pw ph : Int) (A : Option Addr) (n c : Nat) (l : List (Int × Int)) (w : World) (hr : RdL encZ 2 w A l) (hn : l.length = n) (hq : ∀ z ∈ l, True) (hc : n ≤ c) (hm : c ≤ maxLen) :
    Calls Try.prog 12 #[.int .i64 pw, .int .i64 ph, .slice A n c] w fun e w' => e = .returned (.bool true) ∧ Below w.heap.size w w' := by
  obtain ⟨o, Ho⟩ : ∃ o, Hid (packR pw ph l = o) := ⟨_, rfl⟩
  have HR := Lib.hid hr
  have Hn := Lib.hid hn
  clear hr hn hq
  cases h1 : decide ((40 : Int) < (n : Int)) with
  | true =>
    go_enter Try.func12, Try.ntmps12
    go_wp2_with fail
    refine (ex_any _).mono ?_
    rintro e w1 ⟨rfl, hb1⟩
    go_wp2
    go_ret
    exact ⟨rfl, (by repeat (first | (with_reducible exact Below.refl _ _) | (with_reducible refine balloc ?_ _) | (with_reducible refine Below.drew ?_) | (with_reducible refine bdrewN ?_ _) | ((with_reducible refine bset ?_ ?_ _); rotate_left; focus (first | (with_reducible exact Nat.le_refl _) | (simp; done) | (simp; omega) | omega)) | (with_reducible refine bstep (by with_reducible assumption) ?_)))⟩
  | false =>
    have hn40 : n ≤ 40 := by have := of_decide_eq_false h1; omega
    go_enter Try.func12, Try.ntmps12
    go_wp2_with fail
    refine (pack_any pw ph A n c l _ HR.out Hn.out).mono ?_
    rw [Ho.out]
    rintro e w1 ⟨v1, rfl, ho1, hb1⟩
    obtain ⟨A1, c1, rfl, hr1, hcc1⟩ := ho1.form encR_len
    cases o with
    | none =>
      simp only [Option.getD_none, Option.isSome_none, List.length_nil]
      go_wp2_with fail
      refine (ex_any _).mono ?_
      rintro e w2 ⟨rfl, hb2⟩
      go_wp2
      go_ret
      exact ⟨rfl, (by repeat (first | (with_reducible exact Below.refl _ _) | (with_reducible refine balloc ?_ _) | (with_reducible refine Below.drew ?_) | (with_reducible refine bdrewN ?_ _) | ((with_reducible refine bset ?_ ?_ _); rotate_left; focus (first | (with_reducible exact Nat.le_refl _) | (simp; done) | (simp; omega) | omega)) | (with_reducible refine bstep (by with_reducible assumption) ?_)))⟩
    | some os =>
      obtain ⟨s1, s2, hlen0, hpg, hap, hsz⟩ := pack_laid Ho.out
      have hlen : os.length = n := hlen0.trans Hn.out
      simp only [Option.getD_some, Option.isSome_some] at hr1 hcc1 ⊢
      rw [hlen] at hcc1 ⊢
      have Hl : Hid (l.length = n ∧ os.length = n) := ⟨Hn.out, hlen⟩
      have HP : Hid (∀ k (hk : k < os.length) (hk' : k < l.length), os[k].x1 - os[k].x0 = (l[k]).1 ∧ os[k].y1 - os[k].y0 = (l[k]).2 ∧ emptyB os[k] = false ∧ withinB os[k] ⟨0, 0, pw, ph⟩ = true ∧ (0 ≤ (l[k]).1 ∧ (l[k]).1 ≤ 4096 ∧ 0 ≤ (l[k]).2 ∧ (l[k]).2 ≤ 4096)) := fun k hk hk' => by
        have hp := hpg _ (List.getElem_mem hk)
        have hw := page_within s1 s2 hp
        have t1 := sideB_true s1
        have t2 := sideB_true s2
        have hz : (os[k].x1 - os[k].x0, os[k].y1 - os[k].y0) = l[k] := by
          have h := hsz
          unfold sizesL at h
          have := congrArg (fun q => q[k]?) h
          simp only [List.getElem?_map, List.getElem?_eq_getElem hk, List.getElem?_eq_getElem hk', Option.map_some, Option.some.injEq] at this
          exact this
        have z1 := congrArg Prod.fst hz
        have z2 := congrArg Prod.snd hz
        simp only at z1 z2
        exact ⟨z1, z2, hw.1, hw.2, by omega⟩
      have HA : Hid (∀ i k (hi : i < os.length) (hk : k < os.length), k < i → emptyB (interR os[i] os[k]) = true) := fun i k hi hk hki =>
        inter_apart (apart_symm (List.pairwise_iff_getElem.1 hap k i hk hi hki))
      have HO : Hid (RdL encR 4 w1 A1 os) := hr1
      have hnn : ((n : Int) != (n : Int)) = false := by simp
      clear hlen hlen0 hpg hap hsz hr1 ho1 s1 s2
      go_wp2_with fail
      go_loopw [37] (fun i wr => ∃ k : Nat, k ≤ n ∧ i = .int .i64 k ∧ Below w1.heap.size w1 wr) (fun i _ => n - (intOf i).toNat)
      case atStart => exact ⟨0, Nat.zero_le _, rfl, Below.refl _ _⟩
      case round =>
        obtain ⟨k, hk, rfl, hbw⟩ := hrel
        have hb0 : Below w.heap.size w wr := bstep hbw hb1
        by_cases hlt : k < n
        · have hkl : k < l.length := by have := Hl.out; omega
          have hko : k < os.length := by have := Hl.out; omega
          obtain ⟨p1, p2, p3, p4, p5⟩ := HP.out k hko hkl
          obtain ⟨g, of1, rfl, hg, hcA⟩ := rd4 (HO.out.below hbw) hko
          obtain ⟨g', of2, rfl, hg', hcB⟩ := rd2 (HR.out.below hb0) hkl
          obtain ⟨r, Hr⟩ : ∃ r, Hid (os[k] = r) := ⟨os[k], rfl⟩
          obtain ⟨z, Hz⟩ : ∃ z, Hid (l[k] = z) := ⟨l[k], rfl⟩
          have QA := Lib.hid hcA
          have QB := Lib.hid hcB
          rw [Hr.out] at QA p1 p2 p3 p4
          rw [Hz.out] at QB p1 p2 p5
          have P3 := Lib.hid p3
          have P4 := Lib.hid p4
          have t1 : IntKind.i64.wrap (r.x1 - r.x0) = z.1 := by rw [p1]; exact IntWalk.i64_in _ (by omega)
          have t2 : IntKind.i64.wrap (r.y1 - r.y0) = z.2 := by rw [p2]; exact IntWalk.i64_in _ (by omega)
          have i0 : (0 : Int) ≤ (k : Int) := by omega
          have i1 : (k : Int) < (n : Int) := by omega
          clear p1 p2 p3 p4 p5 hcA hcB hkl Hz
          go_wp2_with fail
          refine wp_region_gob 54 [(0, true), (1, true), (2, true), (3, true), (4, true), (5, true), (6, true), (7, true), (8, true), (9, true), (10, true), (11, true), (12, true), (13, true), (14, true), (15, true), (16, true), (17, true), (18, true), (19, true), (20, true), (21, true), (22, true), (23, true), (24, true), (25, true), (26, true), (27, true), (28, true), (29, true), (30, true), (31, true), (32, true), (33, true), (34, true), (35, true), (36, true), (37, true), (38, true), (39, true), (40, true), (41, true), (42, true), (43, true), (44, false), (45, true), (46, true), (47, true), (48, true), (49, true), (50, true), (51, true), (52, false), (53, true)] (by kernel_rfl) (by kernel_rfl) (fun c a d v w h => by cases d <;> exact h) ?_
          repeat (refine wpGo_pure (v := ?_) rfl rfl (fun w' hS => ?_) ?_; rotate_left; (· obtain ⟨q0, q1, q2, q3⟩ := QA.out; have qr0 := (hS.cell (p := ⟨g, of1 + k * 4, none⟩) hg).trans q0; have qr1 := (hS.cell (p := ⟨g, of1 + k * 4 + 1, none⟩) hg).trans q1; have qr2 := (hS.cell (p := ⟨g, of1 + k * 4 + 2, none⟩) hg).trans q2; have qr3 := (hS.cell (p := ⟨g, of1 + k * 4 + 3, none⟩) hg).trans q3; obtain ⟨s0, s1⟩ := QB.out; have sr0 := (hS.cell (p := ⟨g', of2 + k * 2, none⟩) hg').trans s0; have sr1 := (hS.cell (p := ⟨g', of2 + k * 2 + 1, none⟩) hg').trans s1; go_simp; exact rfl); (try simp only [Act.put, List.setIfInBounds_toArray, List.set_cons_zero, List.set_cons_succ]))
          refine wpGo_eff rfl (fun K hK => ?_)
          go_simp
          refine (within_b _ _ _ _ _ _ _ _ true P4 _).mono ?_
          rintro e w2 ⟨rfl, hb2⟩
          refine hK.out _ _ (by repeat (first | (with_reducible exact Below.refl _ _) | (with_reducible refine balloc ?_ _) | (with_reducible refine Below.drew ?_) | (with_reducible refine bdrewN ?_ _) | ((with_reducible refine bset ?_ ?_ _); rotate_left; focus (first | (with_reducible exact Nat.le_refl _) | (simp; done) | (simp; omega) | omega)) | (with_reducible refine bstep (by with_reducible assumption) ?_))) (fun hS2 => ?_)
          clear hK K
          repeat (refine wpGo_pure (v := ?_) rfl rfl (fun w' hS => ?_) ?_; rotate_left; (· obtain ⟨q0, q1, q2, q3⟩ := QA.out; have qr0 := (hS.cell (p := ⟨g, of1 + k * 4, none⟩) hg).trans q0; have qr1 := (hS.cell (p := ⟨g, of1 + k * 4 + 1, none⟩) hg).trans q1; have qr2 := (hS.cell (p := ⟨g, of1 + k * 4 + 2, none⟩) hg).trans q2; have qr3 := (hS.cell (p := ⟨g, of1 + k * 4 + 3, none⟩) hg).trans q3; go_simp; exact rfl); (try simp only [Act.put, List.setIfInBounds_toArray, List.set_cons_zero, List.set_cons_succ]))
          refine wpGo_eff rfl (fun K hK => ?_)
          go_simp
          refine (empty_q _ _ _ _ false P3 _).mono ?_
          rintro e w3 ⟨rfl, hb3⟩
          refine hK.out _ _ (by repeat (first | (with_reducible exact Below.refl _ _) | (with_reducible refine balloc ?_ _) | (with_reducible refine Below.drew ?_) | (with_reducible refine bdrewN ?_ _) | ((with_reducible refine bset ?_ ?_ _); rotate_left; focus (first | (with_reducible exact Nat.le_refl _) | (simp; done) | (simp; omega) | omega)) | (with_reducible refine bstep (by with_reducible assumption) ?_))) (fun hS3 => ?_)
          clear hK K
          repeat (refine wpGo_pure (v := ?_) rfl rfl (fun w' hS => ?_) ?_; rotate_left; (· skip; go_simp; exact rfl); (try simp only [Act.put, List.setIfInBounds_toArray, List.set_cons_zero, List.set_cons_succ]))
          refine wpGo_nil ?_
          simp only [List.drop_succ_cons, List.drop_zero]
          have hw3 : Below w1.heap.size w1 w3 := bstep hS3 hbw
          clear t1 t2 hb2 hb3 hS2 hS3 QB P3 P4 hg'
          go_wp2_with fail
          go_loopw [95] (fun i wq => ∃ j : Nat, j ≤ k ∧ i = .int .i64 j ∧ Below w1.heap.size w1 wq) (fun i _ => k - (intOf i).toNat)
          case atStart => exact ⟨0, Nat.zero_le _, rfl, hw3⟩
          case round =>
            obtain ⟨j, hj, rfl, hbq⟩ := hrel
            by_cases hjk : j < k
            · have hjo : j < os.length := by omega
              obtain ⟨g2, of3, hA2, hg2, hcC⟩ := rd4 (HO.out.below hbq) hjo
              obtain ⟨g3, of4, hA3, hg3, hcD⟩ := rd4 (HO.out.below hbq) hko
              injection hA2 with hA2
              injection hA3 with hA3
              injection hA2 with e1 e2 e3
              injection hA3 with e4 e5 e6
              subst e1 e2 e4 e5
              clear e3 e6
              obtain ⟨rj, Hrj⟩ : ∃ r, Hid (os[j] = r) := ⟨os[j], rfl⟩
              obtain ⟨q, Hq⟩ : ∃ q, Hid (interR r rj = q) := ⟨_, rfl⟩
              have HE : Hid (emptyB q = true) := by
                have h := HA.out k j hko hjo hjk
                rw [Hr.out, Hrj.out, Hq.out] at h
                exact h
              rw [Hr.out] at hcD
              rw [Hrj.out] at hcC
              have QC := Lib.hid hcC
              have QD := Lib.hid hcD
              have i2 : (0 : Int) ≤ (j : Int) := by omega
              have i3 : (j : Int) < (n : Int) := by omega
              clear hcC hcD Hrj QA
              go_wp2_with fail
              refine wp_region_gob 11 [(0, true), (1, true), (2, true), (3, true), (4, true), (5, true), (6, true), (7, true), (8, false), (9, false), (10, true)] (by kernel_rfl) (by kernel_rfl) (fun c a d v w h => by cases d <;> exact h) ?_
              repeat (refine wpGo_pure (v := ?_) rfl rfl (fun w' hS => ?_) ?_; rotate_left; (· obtain ⟨q0, q1, q2, q3⟩ := QC.out; have qr0 := (hS.cell (p := ⟨g, of1 + j * 4, none⟩) hg2).trans q0; have qr1 := (hS.cell (p := ⟨g, of1 + j * 4 + 1, none⟩) hg2).trans q1; have qr2 := (hS.cell (p := ⟨g, of1 + j * 4 + 2, none⟩) hg2).trans q2; have qr3 := (hS.cell (p := ⟨g, of1 + j * 4 + 3, none⟩) hg2).trans q3; obtain ⟨s0, s1, s2, s3⟩ := QD.out; have sr0 := (hS.cell (p := ⟨g, of1 + k * 4, none⟩) hg2).trans s0; have sr1 := (hS.cell (p := ⟨g, of1 + k * 4 + 1, none⟩) hg2).trans s1; have sr2 := (hS.cell (p := ⟨g, of1 + k * 4 + 2, none⟩) hg2).trans s2; have sr3 := (hS.cell (p := ⟨g, of1 + k * 4 + 3, none⟩) hg2).trans s3; go_simp; exact rfl); (try simp only [Act.put, List.setIfInBounds_toArray, List.set_cons_zero, List.set_cons_succ]))
              refine wpGo_eff rfl (fun K hK => ?_)
              go_simp
              refine (inter_q _ _ _ _ _ _ _ _ q Hq _).mono ?_
              rintro e w4 ⟨rfl, hb4⟩
              refine hK.out _ _ (by repeat (first | (with_reducible exact Below.refl _ _) | (with_reducible refine balloc ?_ _) | (with_reducible refine Below.drew ?_) | (with_reducible refine bdrewN ?_ _) | ((with_reducible refine bset ?_ ?_ _); rotate_left; focus (first | (with_reducible exact Nat.le_refl _) | (simp; done) | (simp; omega) | omega)) | (with_reducible refine bstep (by with_reducible assumption) ?_))) (fun hS4 => ?_)
              clear hK K
              refine wpGo_eff rfl (fun K hK => ?_)
              go_simp
              refine (empty_q _ _ _ _ true HE _).mono ?_
              rintro e w5 ⟨rfl, hb5⟩
              refine hK.out _ _ (by repeat (first | (with_reducible exact Below.refl _ _) | (with_reducible refine balloc ?_ _) | (with_reducible refine Below.drew ?_) | (with_reducible refine bdrewN ?_ _) | ((with_reducible refine bset ?_ ?_ _); rotate_left; focus (first | (with_reducible exact Nat.le_refl _) | (simp; done) | (simp; omega) | omega)) | (with_reducible refine bstep (by with_reducible assumption) ?_))) (fun hS5 => ?_)
              clear hK K
              repeat (refine wpGo_pure (v := ?_) rfl rfl (fun w' hS => ?_) ?_; rotate_left; (· skip; go_simp; exact rfl); (try simp only [Act.put, List.setIfInBounds_toArray, List.set_cons_zero, List.set_cons_succ]))
              refine wpGo_nil ?_
              simp only [List.drop_succ_cons, List.drop_zero]
              have hw5 : Below w1.heap.size w1 w5 := bstep hS5 hbq
              clear hb4 hb5 hS4 hS5 QC QD HE Hq
              go_wp2
              go_roundw
              case rel => exact ⟨j + 1, by omega, by go_num, hw5⟩
              case measure => simp [intOf]; omega
            · go_wp2
              go_roundw
              case rel => exact ⟨k + 1, by omega, by go_num, hbq⟩
              case measure => simp [intOf]; omega
        · go_wp2_with fail
          refine (ex_any _).mono ?_
          rintro e w2 ⟨rfl, hb2⟩
          go_wp2
          go_ret
          exact ⟨rfl, bstep hb2 hb0⟩

set_option maxRecDepth 100000 in
theorem lifted_RectPackDisjoint (os : Os) (started : os.Started) (H : Type) (enc : TypeId × Value → H) :
    ReturnsInHanded {} Try.checked os 12 .any (Rows.rectPackDisjointSpec.pre6 enc Try.prog Try.f12 Rows.rectPackDisjointRow.domain false) (Rows.rectPackDisjointSpec.post enc Try.prog Try.f12 false true false false) := by
  refine returnsInHanded_of_change (C := Try.checked) Try.own started (by kernel_rfl) Try.func12
    (ChangeSpec.witness6 (enc := enc) (C := Try.checked) false ⟨#[], #[.int .i64 0, .int .i64 0, .slice none 0 0], []⟩ 8 (by kernel_rfl) (by kernel_rfl) (by kernel_rfl) (by kernel_rfl)) ?_
  intro W base args ds gs before hval0 hW hcnd _
  have hval : ∀ (j : Nat) t v, Try.f12.params[j]? = some t → args[j]? = some v → Value.okWide Try.prog W .any base t v := hval0
  have hW' := hW
  obtain ⟨p, q, hA0, hV, rfl, hfz, hnd⟩ := hW
  have hA : DataW.TrodAll enc Try.prog W 0 (fun _ => true) true Try.f12.params.toList args.toList ds p := hA0
  rw [Try.params12] at hA hval
  obtain ⟨v0, vs0, d0, ds0, p0, q0, hargs, rfl, rfl, h0, r0⟩ := trodAll_cons hA
  obtain ⟨v1, vs1, d1, ds1, p1, q1, rfl, rfl, rfl, h1, r1⟩ := trodAll_cons r0
  obtain ⟨v2, vs2, d2, ds2, p2, q2, rfl, rfl, rfl, h2, r2⟩ := trodAll_cons r1
  obtain ⟨rfl, rfl, rfl⟩ := trodAll_nil r2
  obtain rfl : args = #[v0, v1, v2] := by cases args; simp_all
  obtain ⟨x0, rfl, _, _, g0⟩ := open_int Try.underlying3 (hval 0 3 v0 rfl rfl) h0
  obtain ⟨x1, rfl, _, _, g1⟩ := open_int Try.underlying3 (hval 1 3 v1 rfl rfl) h1
  obtain ⟨A2, n2, c2, l2, rfl, hl2, hr2, hq2, hc2, hm2⟩ := open_rows (encA := encZ) (size := 2) Try.underlying44 (by kernel_rfl) (by decide) dec_pt (hval 2 44 v2 rfl rfl) h2
  refine (walk_RectPackDisjoint x0 x1 A2 n2 c2 l2 W hr2 hl2 hq2 hc2 hm2).mono fun e W' ⟨he, hb⟩ => ?_
  subst he
  exact ⟨_, rfl, law_post (tb := 4) Try.laidOut (by kernel_rfl) hW' rfl rfl Try.underlying4 rfl rfl rfl hb⟩

theorem RectPackDisjoint_holds : Rows.RectPackDisjointSaid :=
  OpenClaim.holds_of_wide 12 Try.f12 rfl rfl rfl rfl rfl rfl rfl ⟨rfl, rfl, rfl, rfl, rfl⟩ rfl rfl rfl rfl rfl (by kernel_rfl) Try.func12 (by kernel_rfl)
    (of_decide_eq_true (by kernel_rfl)) (by unfold Func.isWrapper; first | (rw [if_pos (by decide +kernel)]; kernel_rfl) | (rw [if_neg (by decide +kernel)]; exact ⟨rfl, rfl⟩))
    (fun os started H enc _ => lifted_RectPackDisjoint os started H enc)
#print axioms RectPackDisjoint_holds
end Go.Proofs.Ytiaeaegocfmjhaa
