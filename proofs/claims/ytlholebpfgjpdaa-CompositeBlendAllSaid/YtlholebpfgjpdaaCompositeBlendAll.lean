/- CompositeBlendAll: for every mode, every pixel and every slice of pixels the law grisaillelaw29.CompositeBlendAll returns true. No conditions. -/
import Derived.Test.YtlholebpfgjpdaaEx29
import Derived.Test.YtlholebpfgjpdaaRAll
import Derived.Test.YtlholebpfgjpdaaOpenP
import Derived.Test.YtlholebpfgjpdaaList3
namespace Go.Proofs.Ytlholebpfgjpdaa
open Go.ChangeShapes Go.WideShapes Go.ChangeAt Go.RowKit
set_option linter.unusedSimpArgs false
set_option linter.unusedVariables false

theorem Try.infoPx : (Try.prog.info? 29).map (fun i => (i.zero, i.size, i.bytes)) = some (some (.agg #[.int .u8 0, .int .u8 0, .int .u8 0, .int .u8 0]), 4, 4) := by kernel_rfl
set_option maxHeartbeats 3200000 in
theorem walk_CompositeBlendAll (mode : Int) (d : Px) (A : Option Addr) (n c : Nat) (l : List Px) (w : World) (hd : d.byte) (hr : RdL encP 4 w A l) (hl : l.length = n) (hq : ∀ x ∈ l, x.byte) (_ : n ≤ c) (_ : c ≤ maxLen) :
    Calls Try.prog 6 #[.int .i64 mode, .agg #[.int .u8 d.r, .int .u8 d.g, .int .u8 d.b, .int .u8 d.a], .slice A n c] w fun e w' => e = .returned (.bool true) ∧ Below w.heap.size w w' := by
  have HD := Lib.hid hd
  have HR := Lib.hid hr
  have HL := Lib.hid hl
  have HQ := Lib.hid hq
  clear hd hr hl hq
  by_cases hbig : 300 < n
  · have hb' : (300 : Int) < (n : Int) := by omega
    go_enter Try.func6, Try.ntmps6
    go_wp2_with fail
    refine (ex_any _).mono ?_
    rintro e w1 ⟨rfl, hb1⟩
    go_wp2
    go_ret
    exact ⟨rfl, (by repeat (first | (with_reducible exact Below.refl _ _) | (with_reducible refine balloc ?_ _) | (with_reducible refine Below.drew ?_) | (with_reducible refine bdrewN ?_ _) | ((with_reducible refine bset ?_ ?_ _); rotate_left; focus (first | (with_reducible exact Nat.le_refl _) | (simp; done) | (simp; omega) | omega)) | (with_reducible refine bstep (by with_reducible assumption) ?_)))⟩
  · have hb' : ¬ (300 : Int) < (n : Int) := by omega
    obtain ⟨h, Hh⟩ : ∃ h, Hid (blendAllP mode d l = h) := ⟨_, rfl⟩
    have heq := fun w => (eql_px h h w).trans (by rw [eqP_refl])
    have hB0 : Below w.heap.size w ((w.alloc (.cells #[.int .u8 d.r, .int .u8 d.g, .int .u8 d.b, .int .u8 d.a] 29)).drew.alloc (.cells #[] 29)) := (by repeat (first | (with_reducible exact Below.refl _ _) | (with_reducible refine balloc ?_ _) | (with_reducible refine Below.drew ?_) | (with_reducible refine bdrewN ?_ _) | ((with_reducible refine bset ?_ ?_ _); rotate_left; focus (first | (with_reducible exact Nat.le_refl _) | (simp; done) | (simp; omega) | omega)) | (with_reducible refine bstep (by with_reducible assumption) ?_)))
    have hB01 : Below (w.alloc (.cells #[.int .u8 d.r, .int .u8 d.g, .int .u8 d.b, .int .u8 d.a] 29)).heap.size (w.alloc (.cells #[.int .u8 d.r, .int .u8 d.g, .int .u8 d.b, .int .u8 d.a] 29)) ((w.alloc (.cells #[.int .u8 d.r, .int .u8 d.g, .int .u8 d.b, .int .u8 d.a] 29)).drew.alloc (.cells #[] 29)) := (by repeat (first | (with_reducible exact Below.refl _ _) | (with_reducible refine balloc ?_ _) | (with_reducible refine Below.drew ?_) | (with_reducible refine bdrewN ?_ _) | ((with_reducible refine bset ?_ ?_ _); rotate_left; focus (first | (with_reducible exact Nat.le_refl _) | (simp; done) | (simp; omega) | omega)) | (with_reducible refine bstep (by with_reducible assumption) ?_)))
    have kE : Bk ((w.alloc (.cells #[.int .u8 d.r, .int .u8 d.g, .int .u8 d.b, .int .u8 d.a] 29)).drew.alloc (.cells #[] 29)) (w.heap.size + 1) 29 #[] := (by repeat (first | (with_reducible assumption) | ((with_reducible refine Bk.new _ _ _ ?_); first | (with_reducible rfl) | (simp; done)) | (with_reducible refine Bk.alloc ?_ _) | (with_reducible refine Bk.drew ?_) | (with_reducible refine Bk.drewN ?_ _) | ((with_reducible refine Bk.far ?_ ?_ _); rotate_left; focus (first | (simp; done) | (simp; omega))) | (with_reducible refine Bk.below ?_ (by with_reducible assumption))))
    have hE : OwnL encP 29 4 ((w.alloc (.cells #[.int .u8 d.r, .int .u8 d.g, .int .u8 d.b, .int .u8 d.a] 29)).drew.alloc (.cells #[] 29)) (w.heap.size + 1) (.slice (some ⟨w.heap.size + 1, 0, none⟩) 0 0) [] := OwnL.lit (l := []) encP_len kE (Nat.le_refl _) (by decide) rfl
    have hll : ([] : List Px).length + n ≤ 4294967296 := by simp; omega
    have HRD := Lib.hid (HR.out.below hB0)
    have HE := Lib.hid hE
    clear hE kE
    go_enter Try.func6, Try.ntmps6
    go_wp2_with fail
    refine wp_region_gob 15 [(0, true), (1, true), (3, true), (6, true), (7, true), (8, true), (2, false), (4, false), (5, false), (9, false), (10, true), (11, true), (12, false), (13, true), (14, true)] (by kernel_rfl) (by kernel_rfl) (fun c a d v w h => by cases d <;> exact h) ?_
    repeat (refine wpGo_pure (v := ?_) rfl rfl (fun w' hS => ?_) ?_; rotate_left; (· have kDp : Bk w' (w.heap.size) 29 #[.int .u8 d.r, .int .u8 d.g, .int .u8 d.b, .int .u8 d.a] := (by repeat (first | (with_reducible assumption) | ((with_reducible refine Bk.new _ _ _ ?_); first | (with_reducible rfl) | (simp; done)) | (with_reducible refine Bk.alloc ?_ _) | (with_reducible refine Bk.drew ?_) | (with_reducible refine Bk.drewN ?_ _) | ((with_reducible refine Bk.far ?_ ?_ _); rotate_left; focus (first | (simp; done) | (simp; omega))) | (with_reducible refine Bk.below ?_ (by with_reducible assumption)))); obtain ⟨kcDp, kfDp, kaDp, kgDp, klDp⟩ := kDp.rules; go_simp; exact rfl); (try simp only [Act.put, List.setIfInBounds_toArray, List.set_cons_zero, List.set_cons_succ]))
    refine wpGo_eff rfl (fun K hK => ?_)
    go_simp
    refine hK.out _ _ (by repeat (first | (with_reducible exact Below.refl _ _) | (with_reducible refine balloc ?_ _) | (with_reducible refine Below.drew ?_) | (with_reducible refine bdrewN ?_ _) | ((with_reducible refine bset ?_ ?_ _); rotate_left; focus (first | (with_reducible exact Nat.le_refl _) | (simp; done) | (simp; omega) | omega)) | (with_reducible refine bstep (by with_reducible assumption) ?_))) (fun _ => ?_)
    clear hK K
    refine wpGo_effp rfl (fun K hK => ?_)
    refine wp_append_rd encP_len encP_one 35 Try.infoPx rfl (by decide) (by decide) Try.underlying35 _ _ rfl (w.heap.size + 1) _ [] rfl HE.out A n c l rfl HL.out HRD.out hll (by simp) ?_
    intro v5 w5 ho5 hg5
    have hB5 := below_grown HE.out hg5 hB0 (by omega)
    have hB6 := below_grown HE.out hg5 hB01 (by simp)
    obtain ⟨A5, c5, hv5, hr5, _⟩ := ho5.form encP_len
    rw [List.nil_append] at hr5
    rw [List.nil_append, HL.out] at hv5
    subst hv5
    refine hK.out _ _ hB6 (fun _ => ?_)
    clear hK K
    simp only [Act.put, List.setIfInBounds_toArray, List.set_cons_zero, List.set_cons_succ]
    refine wpGo_eff rfl (fun K hK => ?_)
    go_simp
    refine (all_any mode d A5 n c5 l _ HD.out HQ.out hr5 HL.out (by omega) h Hh).mono ?_
    rintro e w5 ⟨rfl, hb5⟩
    refine hK.out _ _ (by repeat (first | (with_reducible exact Below.refl _ _) | (with_reducible refine balloc ?_ _) | (with_reducible refine Below.drew ?_) | (with_reducible refine bdrewN ?_ _) | ((with_reducible refine bset ?_ ?_ _); rotate_left; focus (first | (with_reducible exact Nat.le_refl _) | (simp; done) | (simp; omega) | omega)) | (with_reducible refine bstep (by with_reducible assumption) ?_))) (fun hS5 => ?_)
    clear hK K
    refine wpGo_eff rfl (fun K hK => ?_)
    go_simp
    refine (rall_any mode d A n c l _ HD.out HQ.out (HR.out.below (by show Below w.heap.size w _; exact (by repeat (first | (with_reducible exact Below.refl _ _) | (with_reducible refine balloc ?_ _) | (with_reducible refine Below.drew ?_) | (with_reducible refine bdrewN ?_ _) | ((with_reducible refine bset ?_ ?_ _); rotate_left; focus (first | (with_reducible exact Nat.le_refl _) | (simp; done) | (simp; omega) | omega)) | (with_reducible refine bstep (by with_reducible assumption) ?_))))) HL.out (by omega) h Hh).mono ?_
    rintro e w6 ⟨rfl, hb6⟩
    refine hK.out _ _ (by repeat (first | (with_reducible exact Below.refl _ _) | (with_reducible refine balloc ?_ _) | (with_reducible refine Below.drew ?_) | (with_reducible refine bdrewN ?_ _) | ((with_reducible refine bset ?_ ?_ _); rotate_left; focus (first | (with_reducible exact Nat.le_refl _) | (simp; done) | (simp; omega) | omega)) | (with_reducible refine bstep (by with_reducible assumption) ?_))) (fun hS6 => ?_)
    clear hK K
    repeat (refine wpGo_pure (v := ?_) rfl rfl (fun w' hS => ?_) ?_; rotate_left; (· have kDp : Bk w' (w.heap.size) 29 #[.int .u8 d.r, .int .u8 d.g, .int .u8 d.b, .int .u8 d.a] := (by repeat (first | (with_reducible assumption) | ((with_reducible refine Bk.new _ _ _ ?_); first | (with_reducible rfl) | (simp; done)) | (with_reducible refine Bk.alloc ?_ _) | (with_reducible refine Bk.drew ?_) | (with_reducible refine Bk.drewN ?_ _) | ((with_reducible refine Bk.far ?_ ?_ _); rotate_left; focus (first | (simp; done) | (simp; omega))) | (with_reducible refine Bk.below ?_ (by with_reducible assumption)))); obtain ⟨kcDp, kfDp, kaDp, kgDp, klDp⟩ := kDp.rules; go_simp; exact rfl); (try simp only [Act.put, List.setIfInBounds_toArray, List.set_cons_zero, List.set_cons_succ]))
    refine wpGo_eff rfl (fun K hK => ?_)
    go_simp
    refine (ex_any _).mono ?_
    rintro e w7 ⟨rfl, hb7⟩
    refine hK.out _ _ (by repeat (first | (with_reducible exact Below.refl _ _) | (with_reducible refine balloc ?_ _) | (with_reducible refine Below.drew ?_) | (with_reducible refine bdrewN ?_ _) | ((with_reducible refine bset ?_ ?_ _); rotate_left; focus (first | (with_reducible exact Nat.le_refl _) | (simp; done) | (simp; omega) | omega)) | (with_reducible refine bstep (by with_reducible assumption) ?_))) (fun hS7 => ?_)
    clear hK K
    repeat (refine wpGo_pure (v := ?_) rfl rfl (fun w' hS => ?_) ?_; rotate_left; (· skip; go_simp; exact rfl); (try simp only [Act.put, List.setIfInBounds_toArray, List.set_cons_zero, List.set_cons_succ]))
    refine wpGo_nil ?_
    simp only [List.drop_succ_cons, List.drop_zero]
    go_wp2
    go_ret
    exact ⟨rfl, (by repeat (first | (with_reducible exact Below.refl _ _) | (with_reducible refine balloc ?_ _) | (with_reducible refine Below.drew ?_) | (with_reducible refine bdrewN ?_ _) | ((with_reducible refine bset ?_ ?_ _); rotate_left; focus (first | (with_reducible exact Nat.le_refl _) | (simp; done) | (simp; omega) | omega)) | (with_reducible refine bstep (by with_reducible assumption) ?_)))⟩

set_option maxRecDepth 100000 in
theorem lifted_CompositeBlendAll (os : Os) (started : os.Started) (H : Type) (enc : TypeId × Value → H) :
    ReturnsInHanded {} Try.checked os 6 .any (Rows.compositeBlendAllSpec.pre6 enc Try.prog Try.f6 Rows.compositeBlendAllRow.domain false) (Rows.compositeBlendAllSpec.post enc Try.prog Try.f6 false true false false) := by
  refine returnsInHanded_of_change (C := Try.checked) Try.own started (by kernel_rfl) Try.func6
    (ChangeSpec.witness6 (enc := enc) (C := Try.checked) false ⟨#[], #[.int .i64 0, .agg #[.int .u8 0, .int .u8 0, .int .u8 0, .int .u8 0], .slice none 0 0], []⟩ 8 (by kernel_rfl) (by kernel_rfl) (by kernel_rfl) (by kernel_rfl)) ?_
  intro W base args ds gs before hval0 hW hcnd _
  have hval : ∀ (j : Nat) t v, Try.f6.params[j]? = some t → args[j]? = some v → Value.okWide Try.prog W .any base t v := hval0
  have hW' := hW
  obtain ⟨p, q, hA0, hV, rfl, hfz, hnd⟩ := hW
  have hA : DataW.TrodAll enc Try.prog W 0 (fun _ => true) true Try.f6.params.toList args.toList ds p := hA0
  rw [Try.params6] at hA hval
  obtain ⟨v0, vs0, d0, ds0, p0, q0, hargs, rfl, rfl, h0, r0⟩ := trodAll_cons hA
  obtain ⟨v1, vs1, d1, ds1, p1, q1, rfl, rfl, rfl, h1, r1⟩ := trodAll_cons r0
  obtain ⟨v2, vs2, d2, ds2, p2, q2, rfl, rfl, rfl, h2, r2⟩ := trodAll_cons r1
  obtain ⟨rfl, rfl, rfl⟩ := trodAll_nil r2
  obtain rfl : args = #[v0, v1, v2] := by cases args; simp_all
  obtain ⟨x0, rfl, _, _, g0⟩ := open_int Try.underlying3 (hval 0 3 v0 rfl rfl) h0
  obtain ⟨c10, c11, c12, c13, y10, y11, y12, y13, n1, rfl, _, _, f10, f11, f12, f13⟩ := Joins.open_agg4 Try.underlying29 (by kernel_rfl) (by kernel_rfl) (hval 1 29 v1 rfl rfl) h1
  obtain ⟨x10, rfl, g10⟩ := fld_int Try.underlying5 f10
  obtain ⟨x11, rfl, g11⟩ := fld_int Try.underlying5 f11
  obtain ⟨x12, rfl, g12⟩ := fld_int Try.underlying5 f12
  obtain ⟨x13, rfl, g13⟩ := fld_int Try.underlying5 f13
  obtain ⟨A2, n2, c2, l2, rfl, hl2, hr2, hq2, hc2, hm2⟩ := open_rows (encA := encP) (size := 4) Try.underlying35 (by kernel_rfl) (by decide) dec_px (hval 2 35 v2 rfl rfl) h2
  refine (walk_CompositeBlendAll x0 ⟨x10, x11, x12, x13⟩ A2 n2 c2 l2 W (px_byte g10 g11 g12 g13) hr2 hl2 hq2 hc2 hm2).mono fun e W' ⟨he, hb⟩ => ?_
  subst he
  exact ⟨_, rfl, law_post (tb := 4) Try.laidOut (by kernel_rfl) hW' rfl rfl Try.underlying4 rfl rfl rfl hb⟩

theorem CompositeBlendAll_holds : Rows.CompositeBlendAllSaid :=
  OpenClaim.holds_of_wide 6 Try.f6 rfl rfl rfl rfl rfl rfl rfl ⟨rfl, rfl, rfl, rfl, rfl⟩ rfl rfl rfl rfl rfl (by kernel_rfl) Try.func6 (by kernel_rfl)
    (of_decide_eq_true (by kernel_rfl)) (by unfold Func.isWrapper; first | (rw [if_pos (by decide +kernel)]; kernel_rfl) | (rw [if_neg (by decide +kernel)]; exact ⟨rfl, rfl⟩))
    (fun os started H enc _ => lifted_CompositeBlendAll os started H enc)
#print axioms CompositeBlendAll_holds
end Go.Proofs.Ytlholebpfgjpdaa
