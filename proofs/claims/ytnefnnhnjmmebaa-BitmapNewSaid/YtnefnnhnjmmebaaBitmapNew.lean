/- BitmapNew: for every rectangle and pixel the law grisaillelaw30.BitmapNew returns true. No conditions. -/
import Derived.Test.YtnefnnhnjmmebaaEx30
namespace Go.Proofs.Ytnefnnhnjmmebaa
open Go.ChangeShapes Go.WideShapes Go.ChangeAt Go.RowKit
set_option linter.unusedSimpArgs false
set_option linter.unusedVariables false
theorem new_valid (r : Rc) (p : Px) (hp : p.byte) (h : newE r = 0) : bmValid (newR r) (newL r p) = true := by
  unfold newE at h
  have h1 : validB r = true := by cases hv : validB r with
    | true => rfl
    | false => rw [hv] at h; simp at h
  have h2 : decide (areaR r ≤ 65536) = true := by cases hv : decide (areaR r ≤ 65536) with
    | true => rfl
    | false => rw [h1, hv] at h; simp at h
  unfold newR newL bmValid
  rw [h1, h2]
  simp only [Bool.and_self, if_true, List.length_replicate]
  rw [canon_canon, area_canon, eqB_refl, h2]
  have h3 : (((areaR r).toNat : Nat) : Int) = areaR r := by have := (area_bd r).1; omega
  rw [h3]
  simp
  exact Or.inr (pvB_clamp p hp)
theorem new_len (r : Rc) (p : Px) : (newL r p).length ≤ 65536 := by
  unfold newL
  cases h : (validB r && decide (areaR r ≤ 65536)) with
  | false => simp
  | true =>
    have h2 : areaR r ≤ 65536 := by simp at h; exact h.2
    rw [if_pos rfl, List.length_replicate]; omega

set_option maxHeartbeats 1600000 in
theorem walk_BitmapNew (r : Rc) (p : Px) (w : World) (hp : p.byte) :
    Calls Try.prog 3 #[.agg #[.int .i64 r.x0, .int .i64 r.y0, .int .i64 r.x1, .int .i64 r.y1], .agg #[.int .u8 p.r, .int .u8 p.g, .int .u8 p.b, .int .u8 p.a]] w fun e w' => e = .returned (.bool true) ∧ Below w.heap.size w w' := by
  have HN := new_any r p
  have HM := rnew_any r p
  have HV := Lib.hid (new_valid r p hp)
  have Hlen := Lib.hid (new_len r p)
  obtain ⟨n, Hn⟩ : ∃ n, Hid ((newL r p).length = n) := ⟨_, rfl⟩
  clear hp
  generalize newR r = q at *
  generalize newL r p = l at *
  generalize newE r = er at *
  have hnb : n ≤ 65536 := Hn.out ▸ Hlen.out
  have HN' := Lib.hid HN
  have HM' := Lib.hid HM
  clear HN HM Hlen
  have hee : (er == er) = true := by simp
  by_cases he : er = 0
  · have HV' : Hid (bmValid q l = true) := HV.out he
    clear HV hee
    subst he
    go_enter Try.func3, Try.ntmps3
    go_wp2_with fail
    refine (HN'.out _).mono ?_
    rintro e w1 ⟨v1, rfl, ho1, hb1⟩
    obtain ⟨A1, c1, hv1, hr1, _⟩ := ho1.form encP_len
    rw [Hn.out] at hv1
    subst hv1
    have HR1 := Lib.hid hr1
    clear ho1 hr1
    have kR1 : Bk w1 (w.heap.size) 23 #[.int .i64 r.x0, .int .i64 r.y0, .int .i64 r.x1, .int .i64 r.y1] := (by repeat (first | (with_reducible assumption) | ((with_reducible refine Bk.new _ _ _ ?_); first | (with_reducible rfl) | (simp; done)) | (with_reducible refine Bk.alloc ?_ _) | (with_reducible refine Bk.drew ?_) | (with_reducible refine Bk.drewN ?_ _) | ((with_reducible refine Bk.far ?_ ?_ _); rotate_left; focus (first | (simp; done) | (simp; omega))) | (with_reducible refine Bk.below ?_ (by with_reducible assumption)))); obtain ⟨kcR1, kfR1, kaR1, kgR1, klR1⟩ := kR1.rules; have kP1 : Bk w1 (w.heap.size + 1) 25 #[.int .u8 p.r, .int .u8 p.g, .int .u8 p.b, .int .u8 p.a] := (by repeat (first | (with_reducible assumption) | ((with_reducible refine Bk.new _ _ _ ?_); first | (with_reducible rfl) | (simp; done)) | (with_reducible refine Bk.alloc ?_ _) | (with_reducible refine Bk.drew ?_) | (with_reducible refine Bk.drewN ?_ _) | ((with_reducible refine Bk.far ?_ ?_ _); rotate_left; focus (first | (simp; done) | (simp; omega))) | (with_reducible refine Bk.below ?_ (by with_reducible assumption)))); obtain ⟨kcP1, kfP1, kaP1, kgP1, klP1⟩ := kP1.rules
    go_wp2_with fail
    refine (HM'.out _).mono ?_
    rintro e w2 ⟨v2, rfl, ho2, hb2⟩
    obtain ⟨A2, c2, hv2, hr2, _⟩ := ho2.form encP_len
    rw [Hn.out] at hv2
    subst hv2
    have HR2 := Lib.hid hr2
    clear ho2 hr2
    clear kcR1 kfR1 kaR1 kgR1 kcP1 kfP1 kaP1 kgP1
    have kS2 : Bk w2 (w1.heap.size) 28 #[.int .i64 q.x0, .int .i64 q.y0, .int .i64 q.x1, .int .i64 q.y1, .slice A1 n c1] := (by repeat (first | (with_reducible assumption) | ((with_reducible refine Bk.new _ _ _ ?_); first | (with_reducible rfl) | (simp; done)) | (with_reducible refine Bk.alloc ?_ _) | (with_reducible refine Bk.drew ?_) | (with_reducible refine Bk.drewN ?_ _) | ((with_reducible refine Bk.far ?_ ?_ _); rotate_left; focus (first | (simp; done) | (simp; omega))) | (with_reducible refine Bk.below ?_ (by with_reducible assumption)))); obtain ⟨kcS2, kfS2, kaS2, kgS2, klS2⟩ := kS2.rules
    go_wp2_with fail
    refine (requal_same q A1 A2 n c1 c2 l _ (HR1.out.below (by repeat (first | (with_reducible exact Below.refl _ _) | (with_reducible refine balloc ?_ _) | (with_reducible refine Below.drew ?_) | (with_reducible refine bdrewN ?_ _) | ((with_reducible refine bset ?_ ?_ _); rotate_left; focus (first | (with_reducible exact Nat.le_refl _) | (simp; done) | (simp; omega) | omega)) | (with_reducible refine bstep (by with_reducible assumption) ?_)))) (HR2.out.below (by repeat (first | (with_reducible exact Below.refl _ _) | (with_reducible refine balloc ?_ _) | (with_reducible refine Below.drew ?_) | (with_reducible refine bdrewN ?_ _) | ((with_reducible refine bset ?_ ?_ _); rotate_left; focus (first | (with_reducible exact Nat.le_refl _) | (simp; done) | (simp; omega) | omega)) | (with_reducible refine bstep (by with_reducible assumption) ?_)))) Hn.out (by omega)).mono ?_
    rintro e w3 ⟨rfl, hb3⟩
    clear kcS2 kfS2 kaS2 kgS2
    have kS3 : Bk w3 (w1.heap.size) 28 #[.int .i64 q.x0, .int .i64 q.y0, .int .i64 q.x1, .int .i64 q.y1, .slice A1 n c1] := (by repeat (first | (with_reducible assumption) | ((with_reducible refine Bk.new _ _ _ ?_); first | (with_reducible rfl) | (simp; done)) | (with_reducible refine Bk.alloc ?_ _) | (with_reducible refine Bk.drew ?_) | (with_reducible refine Bk.drewN ?_ _) | ((with_reducible refine Bk.far ?_ ?_ _); rotate_left; focus (first | (simp; done) | (simp; omega))) | (with_reducible refine Bk.below ?_ (by with_reducible assumption)))); obtain ⟨kcS3, kfS3, kaS3, kgS3, klS3⟩ := kS3.rules
    go_wp2_with fail
    refine (bvalid_any q A1 n c1 l _ (HR1.out.below (by repeat (first | (with_reducible exact Below.refl _ _) | (with_reducible refine balloc ?_ _) | (with_reducible refine Below.drew ?_) | (with_reducible refine bdrewN ?_ _) | ((with_reducible refine bset ?_ ?_ _); rotate_left; focus (first | (with_reducible exact Nat.le_refl _) | (simp; done) | (simp; omega) | omega)) | (with_reducible refine bstep (by with_reducible assumption) ?_)))) Hn.out (by omega) true HV').mono ?_
    rintro e w4 ⟨rfl, hb4⟩
    go_wp2_with fail
    refine (ex_any _).mono ?_
    rintro e w5 ⟨rfl, hb5⟩
    go_wp2
    go_ret
    exact ⟨rfl, (by repeat (first | (with_reducible exact Below.refl _ _) | (with_reducible refine balloc ?_ _) | (with_reducible refine Below.drew ?_) | (with_reducible refine bdrewN ?_ _) | ((with_reducible refine bset ?_ ?_ _); rotate_left; focus (first | (with_reducible exact Nat.le_refl _) | (simp; done) | (simp; omega) | omega)) | (with_reducible refine bstep (by with_reducible assumption) ?_)))⟩
  · have hne : (er != 0) = true := by simp [he]
    clear HV he
    go_enter Try.func3, Try.ntmps3
    go_wp2_with fail
    refine (HN'.out _).mono ?_
    rintro e w1 ⟨v1, rfl, ho1, hb1⟩
    obtain ⟨A1, c1, hv1, hr1, _⟩ := ho1.form encP_len
    rw [Hn.out] at hv1
    subst hv1
    have HR1 := Lib.hid hr1
    clear ho1 hr1
    have kR1 : Bk w1 (w.heap.size) 23 #[.int .i64 r.x0, .int .i64 r.y0, .int .i64 r.x1, .int .i64 r.y1] := (by repeat (first | (with_reducible assumption) | ((with_reducible refine Bk.new _ _ _ ?_); first | (with_reducible rfl) | (simp; done)) | (with_reducible refine Bk.alloc ?_ _) | (with_reducible refine Bk.drew ?_) | (with_reducible refine Bk.drewN ?_ _) | ((with_reducible refine Bk.far ?_ ?_ _); rotate_left; focus (first | (simp; done) | (simp; omega))) | (with_reducible refine Bk.below ?_ (by with_reducible assumption)))); obtain ⟨kcR1, kfR1, kaR1, kgR1, klR1⟩ := kR1.rules; have kP1 : Bk w1 (w.heap.size + 1) 25 #[.int .u8 p.r, .int .u8 p.g, .int .u8 p.b, .int .u8 p.a] := (by repeat (first | (with_reducible assumption) | ((with_reducible refine Bk.new _ _ _ ?_); first | (with_reducible rfl) | (simp; done)) | (with_reducible refine Bk.alloc ?_ _) | (with_reducible refine Bk.drew ?_) | (with_reducible refine Bk.drewN ?_ _) | ((with_reducible refine Bk.far ?_ ?_ _); rotate_left; focus (first | (simp; done) | (simp; omega))) | (with_reducible refine Bk.below ?_ (by with_reducible assumption)))); obtain ⟨kcP1, kfP1, kaP1, kgP1, klP1⟩ := kP1.rules
    go_wp2_with fail
    refine (HM'.out _).mono ?_
    rintro e w2 ⟨v2, rfl, ho2, hb2⟩
    obtain ⟨A2, c2, hv2, hr2, _⟩ := ho2.form encP_len
    rw [Hn.out] at hv2
    subst hv2
    have HR2 := Lib.hid hr2
    clear ho2 hr2
    clear kcR1 kfR1 kaR1 kgR1 kcP1 kfP1 kaP1 kgP1
    have kS2 : Bk w2 (w1.heap.size) 28 #[.int .i64 q.x0, .int .i64 q.y0, .int .i64 q.x1, .int .i64 q.y1, .slice A1 n c1] := (by repeat (first | (with_reducible assumption) | ((with_reducible refine Bk.new _ _ _ ?_); first | (with_reducible rfl) | (simp; done)) | (with_reducible refine Bk.alloc ?_ _) | (with_reducible refine Bk.drew ?_) | (with_reducible refine Bk.drewN ?_ _) | ((with_reducible refine Bk.far ?_ ?_ _); rotate_left; focus (first | (simp; done) | (simp; omega))) | (with_reducible refine Bk.below ?_ (by with_reducible assumption)))); obtain ⟨kcS2, kfS2, kaS2, kgS2, klS2⟩ := kS2.rules
    go_wp2_with fail
    refine (requal_same q A1 A2 n c1 c2 l _ (HR1.out.below (by repeat (first | (with_reducible exact Below.refl _ _) | (with_reducible refine balloc ?_ _) | (with_reducible refine Below.drew ?_) | (with_reducible refine bdrewN ?_ _) | ((with_reducible refine bset ?_ ?_ _); rotate_left; focus (first | (with_reducible exact Nat.le_refl _) | (simp; done) | (simp; omega) | omega)) | (with_reducible refine bstep (by with_reducible assumption) ?_)))) (HR2.out.below (by repeat (first | (with_reducible exact Below.refl _ _) | (with_reducible refine balloc ?_ _) | (with_reducible refine Below.drew ?_) | (with_reducible refine bdrewN ?_ _) | ((with_reducible refine bset ?_ ?_ _); rotate_left; focus (first | (with_reducible exact Nat.le_refl _) | (simp; done) | (simp; omega) | omega)) | (with_reducible refine bstep (by with_reducible assumption) ?_)))) Hn.out (by omega)).mono ?_
    rintro e w3 ⟨rfl, hb3⟩
    go_wp2_with fail
    refine (ex_any _).mono ?_
    rintro e w5 ⟨rfl, hb5⟩
    go_wp2
    go_ret
    exact ⟨rfl, (by repeat (first | (with_reducible exact Below.refl _ _) | (with_reducible refine balloc ?_ _) | (with_reducible refine Below.drew ?_) | (with_reducible refine bdrewN ?_ _) | ((with_reducible refine bset ?_ ?_ _); rotate_left; focus (first | (with_reducible exact Nat.le_refl _) | (simp; done) | (simp; omega) | omega)) | (with_reducible refine bstep (by with_reducible assumption) ?_)))⟩

set_option maxRecDepth 100000 in
theorem lifted_BitmapNew (os : Os) (started : os.Started) (H : Type) (enc : TypeId × Value → H) :
    ReturnsInHanded {} Try.checked os 3 .any (Rows.bitmapNewSpec.pre6 enc Try.prog Try.f3 Rows.bitmapNewRow.domain false) (Rows.bitmapNewSpec.post enc Try.prog Try.f3 false true false false) := by
  refine returnsInHanded_of_change (C := Try.checked) Try.own started (by kernel_rfl) Try.func3
    (ChangeSpec.witness6 (enc := enc) (C := Try.checked) false ⟨#[], #[.agg #[.int .i64 0, .int .i64 0, .int .i64 0, .int .i64 0], .agg #[.int .u8 0, .int .u8 0, .int .u8 0, .int .u8 0]], []⟩ 8 (by kernel_rfl) (by kernel_rfl) (by kernel_rfl) (by kernel_rfl)) ?_
  intro W base args ds gs before hval0 hW hcnd _
  have hval : ∀ (j : Nat) t v, Try.f3.params[j]? = some t → args[j]? = some v → Value.okWide Try.prog W .any base t v := hval0
  have hW' := hW
  obtain ⟨p, q, hA0, hV, rfl, hfz, hnd⟩ := hW
  have hA : DataW.TrodAll enc Try.prog W 0 (fun _ => true) true Try.f3.params.toList args.toList ds p := hA0
  rw [Try.params3] at hA hval
  obtain ⟨v0, vs0, d0, ds0, p0, q0, hargs, rfl, rfl, h0, r0⟩ := trodAll_cons hA
  obtain ⟨v1, vs1, d1, ds1, p1, q1, rfl, rfl, rfl, h1, r1⟩ := trodAll_cons r0
  obtain ⟨rfl, rfl, rfl⟩ := trodAll_nil r1
  obtain rfl : args = #[v0, v1] := by cases args; simp_all
  obtain ⟨c00, c01, c02, c03, y00, y01, y02, y03, n0, rfl, _, _, f00, f01, f02, f03⟩ := Joins.open_agg4 Try.underlying23 (by kernel_rfl) (by kernel_rfl) (hval 0 23 v0 rfl rfl) h0
  obtain ⟨x00, rfl, g00⟩ := fld_int Try.underlying3 f00
  obtain ⟨x01, rfl, g01⟩ := fld_int Try.underlying3 f01
  obtain ⟨x02, rfl, g02⟩ := fld_int Try.underlying3 f02
  obtain ⟨x03, rfl, g03⟩ := fld_int Try.underlying3 f03
  obtain ⟨c10, c11, c12, c13, y10, y11, y12, y13, n1, rfl, _, _, f10, f11, f12, f13⟩ := Joins.open_agg4 Try.underlying25 (by kernel_rfl) (by kernel_rfl) (hval 1 25 v1 rfl rfl) h1
  obtain ⟨x10, rfl, g10⟩ := fld_int Try.underlying5 f10
  obtain ⟨x11, rfl, g11⟩ := fld_int Try.underlying5 f11
  obtain ⟨x12, rfl, g12⟩ := fld_int Try.underlying5 f12
  obtain ⟨x13, rfl, g13⟩ := fld_int Try.underlying5 f13
  refine (walk_BitmapNew ⟨x00, x01, x02, x03⟩ ⟨x10, x11, x12, x13⟩ W (px_byte g10 g11 g12 g13)).mono fun e W' ⟨he, hb⟩ => ?_
  subst he
  exact ⟨_, rfl, law_post (tb := 4) Try.laidOut (by kernel_rfl) hW' rfl rfl Try.underlying4 rfl rfl rfl hb⟩

theorem BitmapNew_holds : Rows.BitmapNewSaid :=
  OpenClaim.holds_of_wide 3 Try.f3 rfl rfl rfl rfl rfl rfl rfl ⟨rfl, rfl, rfl, rfl, rfl⟩ rfl rfl rfl rfl rfl (by kernel_rfl) Try.func3 (by kernel_rfl)
    (of_decide_eq_true (by kernel_rfl)) (by unfold Func.isWrapper; first | (rw [if_pos (by decide +kernel)]; kernel_rfl) | (rw [if_neg (by decide +kernel)]; exact ⟨rfl, rfl⟩))
    (fun os started H enc _ => lifted_BitmapNew os started H enc)
#print axioms BitmapNew_holds
end Go.Proofs.Ytnefnnhnjmmebaa
