/-
  The walk of bitmap.BlendOver.
-/
import Derived.Test.YtnefnnhnjmmebaaGreatMadeBlend
import Derived.Test.YtnefnnhnjmmebaaGreatBwc
import Derived.Test.YtnefnnhnjmmebaaGreatMkB
import Derived.Test.YtnefnnhnjmmebaaGreatBmAll
import Derived.Test.YtnefnnhnjmmebaaGreatPasteQ
import Derived.Test.YtnefnnhnjmmebaaGreatBlA
import Derived.Test.YtnefnnhnjmmebaaGreatBm3
namespace Go.Proofs.YtnefnnhnjmmebaaGreat
open Go.RowKit
set_option linter.unusedSimpArgs false
set_option linter.unusedVariables false

def vMk (b : Mk) : Bool := mkValid b.r b.l
/-- The blended bitmap. -/
def boG (mode : Int) (s d : Bm) (m : Mk) (x y : Int) : Px := bwcP mode (atL zP s.r s.l x y) (atL zP d.r d.l x y) (atL 0 m.r m.l x y)
def boV (mode : Int) (s d : Bm) (m : Mk) : Bool := (vBm s && vBm d) && vMk m && validModeB mode
def boR (mode : Int) (s d : Bm) (m : Mk) : Rc := if boV mode s d m then d.r else ⟨0, 0, 0, 0⟩
def boL (mode : Int) (s d : Bm) (m : Mk) : List Px := if boV mode s d m then pixL (boG mode s d m) d.r else []
def boE (mode : Int) (s d : Bm) (m : Mk) : Int := if vBm s && vBm d then (if vMk m then (if validModeB mode then 0 else 2) else 14) else 15

set_option maxHeartbeats 1600000 in
theorem bo1_any (mode x y : Int) (c0 c1 c2 c3 : Nat) (s d : Bm) (m : Mk) (w0 w : World) (hw : Below w0.heap.size w0 w) (HS : Hid (s.ok w0)) (HD : Hid (d.ok w0)) (HM : Hid (m.ok w0)) (hns : s.n ≤ 4000000000) (hnd : d.n ≤ 4000000000) (hnm : m.n ≤ 4000000000) (HSn : Hid ((s.n : Int) = areaR s.r)) (HDn : Hid ((d.n : Int) = areaR d.r)) (HMn : Hid ((m.n : Int) = areaR m.r)) (hE : Bk w c0 3 #[.int .i64 mode]) (hS : Bk w c1 26 #[.int .i64 s.r.x0, .int .i64 s.r.y0, .int .i64 s.r.x1, .int .i64 s.r.y1, .slice s.A s.n s.c]) (hD : Bk w c2 26 #[.int .i64 d.r.x0, .int .i64 d.r.y0, .int .i64 d.r.x1, .int .i64 d.r.y1, .slice d.A d.n d.c]) (hM : Bk w c3 29 #[.int .i64 m.r.x0, .int .i64 m.r.y0, .int .i64 m.r.x1, .int .i64 m.r.y1, .slice m.A m.n m.c]) (p : Px) (Hp0 : Hid (boG mode s d m x y = p)) :
    Calls Tryz.prog 20 #[.int .i64 x, .int .i64 y, .pointer (some ⟨c0, 0, none⟩), .pointer (some ⟨c1, 0, none⟩), .pointer (some ⟨c2, 0, none⟩), .pointer (some ⟨c3, 0, none⟩)] w fun e w' => e = .returned (.agg #[.int .u8 p.r, .int .u8 p.g, .int .u8 p.b, .int .u8 p.a]) ∧ Below w.heap.size w w' := by
  obtain ⟨ps, Hps⟩ : ∃ p, Hid (atL zP s.r s.l x y = p) := ⟨_, rfl⟩
  obtain ⟨pd, Hpd⟩ : ∃ p, Hid (atL zP d.r d.l x y = p) := ⟨_, rfl⟩
  obtain ⟨pm, Hpm⟩ : ∃ p, Hid (atL 0 m.r m.l x y = p) := ⟨_, rfl⟩
  have bs := atL_px (r := s.r) HS.out.byte x y
  have bd := atL_px (r := d.r) HD.out.byte x y
  have bm := atL_byte (r := m.r) HM.out.byte x y
  rw [Hps.out] at bs
  rw [Hpd.out] at bd
  rw [Hpm.out] at bm
  have Hp : Hid (bwcP mode ps pd pm = p) := by have h := Hp0.out; unfold boG at h; rw [Hps.out, Hpd.out, Hpm.out] at h; exact h
  go_enter Tryz.func20, Tryz.ntmps20
  go_wp2_with fail
  refine wp_region_gob 14 [(0, true), (1, true), (2, true), (3, true), (5, true), (6, true), (7, true), (9, true), (10, true), (11, true), (4, false), (8, false), (12, false), (13, false)] (by kernel_rfl) (by kernel_rfl) (fun c a d v w h => by cases d <;> exact h) ?_
  repeat (first | (refine wpGo_pure (v := ?_) rfl rfl (fun w' hS => ?_) ?_; rotate_left; (· have kEp : Bk w' (c0) 3 #[.int .i64 mode] := (by repeat (first | (with_reducible assumption) | ((with_reducible refine Bk.new _ _ _ ?_); first | (with_reducible rfl) | (simp; done)) | (with_reducible refine Bk.alloc ?_ _) | (with_reducible refine Bk.drew ?_) | (with_reducible refine Bk.drewN ?_ _) | ((with_reducible refine Bk.far ?_ ?_ _); rotate_left; focus (first | (simp; done) | (simp; omega))) | (with_reducible refine Bk.below ?_ (by with_reducible assumption)))); obtain ⟨kcEp, kfEp, kaEp, kgEp, klEp⟩ := kEp.rules; have kSp : Bk w' (c1) 26 #[.int .i64 s.r.x0, .int .i64 s.r.y0, .int .i64 s.r.x1, .int .i64 s.r.y1, .slice s.A s.n s.c] := (by repeat (first | (with_reducible assumption) | ((with_reducible refine Bk.new _ _ _ ?_); first | (with_reducible rfl) | (simp; done)) | (with_reducible refine Bk.alloc ?_ _) | (with_reducible refine Bk.drew ?_) | (with_reducible refine Bk.drewN ?_ _) | ((with_reducible refine Bk.far ?_ ?_ _); rotate_left; focus (first | (simp; done) | (simp; omega))) | (with_reducible refine Bk.below ?_ (by with_reducible assumption)))); obtain ⟨kcSp, kfSp, kaSp, kgSp, klSp⟩ := kSp.rules; have kDp : Bk w' (c2) 26 #[.int .i64 d.r.x0, .int .i64 d.r.y0, .int .i64 d.r.x1, .int .i64 d.r.y1, .slice d.A d.n d.c] := (by repeat (first | (with_reducible assumption) | ((with_reducible refine Bk.new _ _ _ ?_); first | (with_reducible rfl) | (simp; done)) | (with_reducible refine Bk.alloc ?_ _) | (with_reducible refine Bk.drew ?_) | (with_reducible refine Bk.drewN ?_ _) | ((with_reducible refine Bk.far ?_ ?_ _); rotate_left; focus (first | (simp; done) | (simp; omega))) | (with_reducible refine Bk.below ?_ (by with_reducible assumption)))); obtain ⟨kcDp, kfDp, kaDp, kgDp, klDp⟩ := kDp.rules; have kMp : Bk w' (c3) 29 #[.int .i64 m.r.x0, .int .i64 m.r.y0, .int .i64 m.r.x1, .int .i64 m.r.y1, .slice m.A m.n m.c] := (by repeat (first | (with_reducible assumption) | ((with_reducible refine Bk.new _ _ _ ?_); first | (with_reducible rfl) | (simp; done)) | (with_reducible refine Bk.alloc ?_ _) | (with_reducible refine Bk.drew ?_) | (with_reducible refine Bk.drewN ?_ _) | ((with_reducible refine Bk.far ?_ ?_ _); rotate_left; focus (first | (simp; done) | (simp; omega))) | (with_reducible refine Bk.below ?_ (by with_reducible assumption)))); obtain ⟨kcMp, kfMp, kaMp, kgMp, klMp⟩ := kMp.rules; go_simp; exact rfl); (try simp only [Act.put, List.setIfInBounds_toArray, List.set_cons_zero, List.set_cons_succ])) | ((refine wpGo_skip rfl rfl ?_); (try simp only [Act.put, List.setIfInBounds_toArray, List.set_cons_zero, List.set_cons_succ])))
  refine wpGo_eff rfl (fun K hK => ?_)
  go_simp
  refine (at_any s.r s.A s.n s.c s.l _ _ _ (HS.out.rd.below (bstep (by show Below w.heap.size w _; exact (by repeat (first | (with_reducible exact Below.refl _ _) | (with_reducible refine balloc ?_ _) | (with_reducible refine Below.drew ?_) | (with_reducible refine bdrewN ?_ _) | ((with_reducible refine bset ?_ ?_ _); rotate_left; focus (first | (with_reducible exact Nat.le_refl _) | (simp; done) | (simp; omega) | omega)) | (with_reducible refine bstep (by with_reducible assumption) ?_)))) hw)) HS.out.ln hns HSn.out ps Hps).mono ?_
  rintro e w1 ⟨rfl, hb1⟩
  refine hK.out _ _ (by repeat (first | (with_reducible exact Below.refl _ _) | (with_reducible refine balloc ?_ _) | (with_reducible refine Below.drew ?_) | (with_reducible refine bdrewN ?_ _) | ((with_reducible refine bset ?_ ?_ _); rotate_left; focus (first | (with_reducible exact Nat.le_refl _) | (simp; done) | (simp; omega) | omega)) | (with_reducible refine bstep (by with_reducible assumption) ?_))) (fun hS1 => ?_)
  clear hK K
  refine wpGo_eff rfl (fun K hK => ?_)
  go_simp
  refine (at_any d.r d.A d.n d.c d.l _ _ _ (HD.out.rd.below (bstep (by show Below w.heap.size w _; exact (by repeat (first | (with_reducible exact Below.refl _ _) | (with_reducible refine balloc ?_ _) | (with_reducible refine Below.drew ?_) | (with_reducible refine bdrewN ?_ _) | ((with_reducible refine bset ?_ ?_ _); rotate_left; focus (first | (with_reducible exact Nat.le_refl _) | (simp; done) | (simp; omega) | omega)) | (with_reducible refine bstep (by with_reducible assumption) ?_)))) hw)) HD.out.ln hnd HDn.out pd Hpd).mono ?_
  rintro e w2 ⟨rfl, hb2⟩
  refine hK.out _ _ (by repeat (first | (with_reducible exact Below.refl _ _) | (with_reducible refine balloc ?_ _) | (with_reducible refine Below.drew ?_) | (with_reducible refine bdrewN ?_ _) | ((with_reducible refine bset ?_ ?_ _); rotate_left; focus (first | (with_reducible exact Nat.le_refl _) | (simp; done) | (simp; omega) | omega)) | (with_reducible refine bstep (by with_reducible assumption) ?_))) (fun hS2 => ?_)
  clear hK K
  refine wpGo_eff rfl (fun K hK => ?_)
  go_simp
  refine (level_any m.r m.A m.n m.c m.l _ _ _ (HM.out.rd.below (bstep (by show Below w.heap.size w _; exact (by repeat (first | (with_reducible exact Below.refl _ _) | (with_reducible refine balloc ?_ _) | (with_reducible refine Below.drew ?_) | (with_reducible refine bdrewN ?_ _) | ((with_reducible refine bset ?_ ?_ _); rotate_left; focus (first | (with_reducible exact Nat.le_refl _) | (simp; done) | (simp; omega) | omega)) | (with_reducible refine bstep (by with_reducible assumption) ?_)))) hw)) HM.out.ln hnm HMn.out pm Hpm).mono ?_
  rintro e w3 ⟨rfl, hb3⟩
  refine hK.out _ _ (by repeat (first | (with_reducible exact Below.refl _ _) | (with_reducible refine balloc ?_ _) | (with_reducible refine Below.drew ?_) | (with_reducible refine bdrewN ?_ _) | ((with_reducible refine bset ?_ ?_ _); rotate_left; focus (first | (with_reducible exact Nat.le_refl _) | (simp; done) | (simp; omega) | omega)) | (with_reducible refine bstep (by with_reducible assumption) ?_))) (fun hS3 => ?_)
  clear hK K
  refine wpGo_eff rfl (fun K hK => ?_)
  go_simp
  refine (bwc_q mode ps pd pm _ bs bd bm.1 bm.2 p Hp).mono ?_
  rintro e w4 ⟨rfl, hb4⟩
  refine hK.out _ _ (by repeat (first | (with_reducible exact Below.refl _ _) | (with_reducible refine balloc ?_ _) | (with_reducible refine Below.drew ?_) | (with_reducible refine bdrewN ?_ _) | ((with_reducible refine bset ?_ ?_ _); rotate_left; focus (first | (with_reducible exact Nat.le_refl _) | (simp; done) | (simp; omega) | omega)) | (with_reducible refine bstep (by with_reducible assumption) ?_))) (fun hS4 => ?_)
  clear hK K
  refine wpGo_nil ?_
  simp only [List.drop_succ_cons, List.drop_zero]
  have kO4 : Bk w4 (w.heap.size) 45 #[.int .u8 0, .int .u8 0, .int .u8 0, .int .u8 0] := (by repeat (first | (with_reducible assumption) | ((with_reducible refine Bk.new _ _ _ ?_); first | (with_reducible rfl) | (simp; done)) | (with_reducible refine Bk.alloc ?_ _) | (with_reducible refine Bk.drew ?_) | (with_reducible refine Bk.drewN ?_ _) | ((with_reducible refine Bk.far ?_ ?_ _); rotate_left; focus (first | (simp; done) | (simp; omega))) | (with_reducible refine Bk.below ?_ (by with_reducible assumption)))); obtain ⟨kcO4, kfO4, kaO4, kgO4, klO4⟩ := kO4.rules
  go_wp2
  refine bodyPost_ret (v := _) ?_ rfl ⟨rfl, (by repeat (first | (with_reducible exact Below.refl _ _) | (with_reducible refine balloc ?_ _) | (with_reducible refine Below.drew ?_) | (with_reducible refine bdrewN ?_ _) | ((with_reducible refine bset ?_ ?_ _); rotate_left; focus (first | (with_reducible exact Nat.le_refl _) | (simp; done) | (simp; omega) | omega)) | (with_reducible refine bstep (by with_reducible assumption) ?_)))⟩
  simp [results, Tryz.results20, go_sem, kcO4]

set_option maxHeartbeats 6400000 in
theorem bo_any (mode : Int) (s d : Bm) (m : Mk) (w : World) (hs : s.ok w) (hd : d.ok w) (hm : m.ok w) (hns : s.n ≤ 4000000000) (hnd : d.n ≤ 4000000000) (hnm : m.n ≤ 4000000000) :
    Calls Tryz.prog 7 #[.int .i64 mode, .agg #[.int .i64 s.r.x0, .int .i64 s.r.y0, .int .i64 s.r.x1, .int .i64 s.r.y1, .slice s.A s.n s.c], .agg #[.int .i64 d.r.x0, .int .i64 d.r.y0, .int .i64 d.r.x1, .int .i64 d.r.y1, .slice d.A d.n d.c], .agg #[.int .i64 m.r.x0, .int .i64 m.r.y0, .int .i64 m.r.x1, .int .i64 m.r.y1, .slice m.A m.n m.c]] w (RetBE (boR mode s d m) (boL mode s d m) (boE mode s d m) w) := by
  have HS := Lib.hid hs
  have HD := Lib.hid hd
  have HM := Lib.hid hm
  have HAB : Hid (∀ x ∈ [s, d], x.ok w) := fun x hx => by
    rcases List.mem_cons.1 hx with h | h
    · rw [h]; exact HS.out
    · rw [List.mem_singleton.1 h]; exact HD.out
  have HSZ : Hid (∀ x ∈ [s, d], x.n ≤ 4000000000) := fun x hx => by
    rcases List.mem_cons.1 hx with h | h
    · rw [h]; omega
    · rw [List.mem_singleton.1 h]; omega
  clear hs hd hm
  have hall : [s, d].all vBm = (vBm s && vBm d) := by simp
  cases h1 : (vBm s && vBm d) with
  | false =>
    have hv : boV mode s d m = false := by unfold boV; rw [h1]; rfl
    have e1 : boR mode s d m = ⟨0, 0, 0, 0⟩ := by unfold boR; rw [hv]; rfl
    have e2 : boL mode s d m = [] := by unfold boL; rw [hv]; rfl
    have e3 : boE mode s d m = 15 := by unfold boE; rw [h1]; rfl
    have Hall : Hid ([s, d].all vBm = false) := hall.trans h1
    rw [e1, e2, e3]
    clear e1 e2 e3 hv h1 hall
    go_enter Tryz.func7, Tryz.ntmps7
    go_wp2_with fail
    refine (ball_any _ 2 _ [s, d] _ (rd_of_bk (e := 26) encBm_len (Bk.new _ _ _ (by first | rfl | simp)) rfl) rfl (by omega) (fun x hx => (HAB.out x hx).below (by repeat (first | (with_reducible exact Below.refl _ _) | (with_reducible refine balloc ?_ _) | (with_reducible refine Below.drew ?_) | (with_reducible refine bdrewN ?_ _) | ((with_reducible refine bset ?_ ?_ _); rotate_left; focus (first | (with_reducible exact Nat.le_refl _) | (simp; done) | (simp; omega) | omega)) | (with_reducible refine bstep (by with_reducible assumption) ?_)))) HSZ.out false Hall).mono ?_
    rintro e w1 ⟨rfl, hb1⟩
    have kO1 : Bk w1 (w.heap.size + 1 + 1 + 1 + 1) 26 #[.int .i64 0, .int .i64 0, .int .i64 0, .int .i64 0, .slice none 0 0] := (by repeat (first | (with_reducible assumption) | ((with_reducible refine Bk.new _ _ _ ?_); first | (with_reducible rfl) | (simp; done)) | (with_reducible refine Bk.alloc ?_ _) | (with_reducible refine Bk.drew ?_) | (with_reducible refine Bk.drewN ?_ _) | ((with_reducible refine Bk.far ?_ ?_ _); rotate_left; focus (first | (simp; done) | (simp; omega))) | (with_reducible refine Bk.below ?_ (by with_reducible assumption)))); obtain ⟨kcO1, kfO1, kaO1, kgO1, klO1⟩ := kO1.rules
    go_wp2
    refine bodyPost_ret (v := _) ?_ rfl (RetBE.no 15 (by repeat (first | (with_reducible exact Below.refl _ _) | (with_reducible refine balloc ?_ _) | (with_reducible refine Below.drew ?_) | (with_reducible refine bdrewN ?_ _) | ((with_reducible refine bset ?_ ?_ _); rotate_left; focus (first | (with_reducible exact Nat.le_refl _) | (simp; done) | (simp; omega) | omega)) | (with_reducible refine bstep (by with_reducible assumption) ?_))))
    simp [results, Tryz.results7, go_sem, kcO1]
  | true =>
    have Hall : Hid ([s, d].all vBm = true) := hall.trans h1
    cases h2 : vMk m with
    | false =>
      have hv : boV mode s d m = false := by unfold boV; rw [h1, h2]; rfl
      have e1 : boR mode s d m = ⟨0, 0, 0, 0⟩ := by unfold boR; rw [hv]; rfl
      have e2 : boL mode s d m = [] := by unfold boL; rw [hv]; rfl
      have e3 : boE mode s d m = 14 := by unfold boE; rw [h1, h2]; rfl
      have Hvm : Hid (mkValid m.r m.l = false) := h2
      rw [e1, e2, e3]
      clear e1 e2 e3 hv h1 h2 hall
      go_enter Tryz.func7, Tryz.ntmps7
      go_wp2_with fail
      refine (ball_any _ 2 _ [s, d] _ (rd_of_bk (e := 26) encBm_len (Bk.new _ _ _ (by first | rfl | simp)) rfl) rfl (by omega) (fun x hx => (HAB.out x hx).below (by repeat (first | (with_reducible exact Below.refl _ _) | (with_reducible refine balloc ?_ _) | (with_reducible refine Below.drew ?_) | (with_reducible refine bdrewN ?_ _) | ((with_reducible refine bset ?_ ?_ _); rotate_left; focus (first | (with_reducible exact Nat.le_refl _) | (simp; done) | (simp; omega) | omega)) | (with_reducible refine bstep (by with_reducible assumption) ?_)))) HSZ.out true Hall).mono ?_
      rintro e w1 ⟨rfl, hb1⟩
      have kMM1 : Bk w1 (w.heap.size + 1 + 1 + 1) 29 #[.int .i64 m.r.x0, .int .i64 m.r.y0, .int .i64 m.r.x1, .int .i64 m.r.y1, .slice m.A m.n m.c] := (by repeat (first | (with_reducible assumption) | ((with_reducible refine Bk.new _ _ _ ?_); first | (with_reducible rfl) | (simp; done)) | (with_reducible refine Bk.alloc ?_ _) | (with_reducible refine Bk.drew ?_) | (with_reducible refine Bk.drewN ?_ _) | ((with_reducible refine Bk.far ?_ ?_ _); rotate_left; focus (first | (simp; done) | (simp; omega))) | (with_reducible refine Bk.below ?_ (by with_reducible assumption)))); obtain ⟨kcMM1, kfMM1, kaMM1, kgMM1, klMM1⟩ := kMM1.rules
      go_wp2_with fail
      refine (mvalid_any m.r m.A m.n m.c m.l _ (HM.out.rd.below (by repeat (first | (with_reducible exact Below.refl _ _) | (with_reducible refine balloc ?_ _) | (with_reducible refine Below.drew ?_) | (with_reducible refine bdrewN ?_ _) | ((with_reducible refine bset ?_ ?_ _); rotate_left; focus (first | (with_reducible exact Nat.le_refl _) | (simp; done) | (simp; omega) | omega)) | (with_reducible refine bstep (by with_reducible assumption) ?_)))) HM.out.ln hnm false Hvm).mono ?_
      rintro e w2 ⟨rfl, hb2⟩
      clear kcMM1 kfMM1 kaMM1 kgMM1
      have kO2 : Bk w2 (w.heap.size + 1 + 1 + 1 + 1) 26 #[.int .i64 0, .int .i64 0, .int .i64 0, .int .i64 0, .slice none 0 0] := (by repeat (first | (with_reducible assumption) | ((with_reducible refine Bk.new _ _ _ ?_); first | (with_reducible rfl) | (simp; done)) | (with_reducible refine Bk.alloc ?_ _) | (with_reducible refine Bk.drew ?_) | (with_reducible refine Bk.drewN ?_ _) | ((with_reducible refine Bk.far ?_ ?_ _); rotate_left; focus (first | (simp; done) | (simp; omega))) | (with_reducible refine Bk.below ?_ (by with_reducible assumption)))); obtain ⟨kcO2, kfO2, kaO2, kgO2, klO2⟩ := kO2.rules
      go_wp2
      refine bodyPost_ret (v := _) ?_ rfl (RetBE.no 14 (by repeat (first | (with_reducible exact Below.refl _ _) | (with_reducible refine balloc ?_ _) | (with_reducible refine Below.drew ?_) | (with_reducible refine bdrewN ?_ _) | ((with_reducible refine bset ?_ ?_ _); rotate_left; focus (first | (with_reducible exact Nat.le_refl _) | (simp; done) | (simp; omega) | omega)) | (with_reducible refine bstep (by with_reducible assumption) ?_))))
      simp [results, Tryz.results7, go_sem, kcO2]
    | true =>
      have Hvm : Hid (mkValid m.r m.l = true) := h2
      cases h3 : validModeB mode with
      | false =>
        have hv : boV mode s d m = false := by unfold boV; rw [h1, h2, h3]; rfl
        have e1 : boR mode s d m = ⟨0, 0, 0, 0⟩ := by unfold boR; rw [hv]; rfl
        have e2 : boL mode s d m = [] := by unfold boL; rw [hv]; rfl
        have e3 : boE mode s d m = 2 := by unfold boE; rw [h1, h2, h3]; rfl
        rw [e1, e2, e3]
        clear e1 e2 e3 hv h1 h2 hall
        go_enter Tryz.func7, Tryz.ntmps7
        go_wp2_with fail
        refine (ball_any _ 2 _ [s, d] _ (rd_of_bk (e := 26) encBm_len (Bk.new _ _ _ (by first | rfl | simp)) rfl) rfl (by omega) (fun x hx => (HAB.out x hx).below (by repeat (first | (with_reducible exact Below.refl _ _) | (with_reducible refine balloc ?_ _) | (with_reducible refine Below.drew ?_) | (with_reducible refine bdrewN ?_ _) | ((with_reducible refine bset ?_ ?_ _); rotate_left; focus (first | (with_reducible exact Nat.le_refl _) | (simp; done) | (simp; omega) | omega)) | (with_reducible refine bstep (by with_reducible assumption) ?_)))) HSZ.out true Hall).mono ?_
        rintro e w1 ⟨rfl, hb1⟩
        have kMM1 : Bk w1 (w.heap.size + 1 + 1 + 1) 29 #[.int .i64 m.r.x0, .int .i64 m.r.y0, .int .i64 m.r.x1, .int .i64 m.r.y1, .slice m.A m.n m.c] := (by repeat (first | (with_reducible assumption) | ((with_reducible refine Bk.new _ _ _ ?_); first | (with_reducible rfl) | (simp; done)) | (with_reducible refine Bk.alloc ?_ _) | (with_reducible refine Bk.drew ?_) | (with_reducible refine Bk.drewN ?_ _) | ((with_reducible refine Bk.far ?_ ?_ _); rotate_left; focus (first | (simp; done) | (simp; omega))) | (with_reducible refine Bk.below ?_ (by with_reducible assumption)))); obtain ⟨kcMM1, kfMM1, kaMM1, kgMM1, klMM1⟩ := kMM1.rules
        go_wp2_with fail
        refine (mvalid_any m.r m.A m.n m.c m.l _ (HM.out.rd.below (by repeat (first | (with_reducible exact Below.refl _ _) | (with_reducible refine balloc ?_ _) | (with_reducible refine Below.drew ?_) | (with_reducible refine bdrewN ?_ _) | ((with_reducible refine bset ?_ ?_ _); rotate_left; focus (first | (with_reducible exact Nat.le_refl _) | (simp; done) | (simp; omega) | omega)) | (with_reducible refine bstep (by with_reducible assumption) ?_)))) HM.out.ln hnm true Hvm).mono ?_
        rintro e w2 ⟨rfl, hb2⟩
        clear kcMM1 kfMM1 kaMM1 kgMM1
        have kE2 : Bk w2 (w.heap.size) 3 #[.int .i64 mode] := (by repeat (first | (with_reducible assumption) | ((with_reducible refine Bk.new _ _ _ ?_); first | (with_reducible rfl) | (simp; done)) | (with_reducible refine Bk.alloc ?_ _) | (with_reducible refine Bk.drew ?_) | (with_reducible refine Bk.drewN ?_ _) | ((with_reducible refine Bk.far ?_ ?_ _); rotate_left; focus (first | (simp; done) | (simp; omega))) | (with_reducible refine Bk.below ?_ (by with_reducible assumption)))); obtain ⟨kcE2, kfE2, kaE2, kgE2, klE2⟩ := kE2.rules; have kO2 : Bk w2 (w.heap.size + 1 + 1 + 1 + 1) 26 #[.int .i64 0, .int .i64 0, .int .i64 0, .int .i64 0, .slice none 0 0] := (by repeat (first | (with_reducible assumption) | ((with_reducible refine Bk.new _ _ _ ?_); first | (with_reducible rfl) | (simp; done)) | (with_reducible refine Bk.alloc ?_ _) | (with_reducible refine Bk.drew ?_) | (with_reducible refine Bk.drewN ?_ _) | ((with_reducible refine Bk.far ?_ ?_ _); rotate_left; focus (first | (simp; done) | (simp; omega))) | (with_reducible refine Bk.below ?_ (by with_reducible assumption)))); obtain ⟨kcO2, kfO2, kaO2, kgO2, klO2⟩ := kO2.rules
        go_wp2_with fail
        refine (vmode_any mode _).mono ?_
        rintro e w3 ⟨rfl, rfl⟩
        go_wp2
        refine bodyPost_ret (v := _) ?_ rfl (RetBE.no 2 (by repeat (first | (with_reducible exact Below.refl _ _) | (with_reducible refine balloc ?_ _) | (with_reducible refine Below.drew ?_) | (with_reducible refine bdrewN ?_ _) | ((with_reducible refine bset ?_ ?_ _); rotate_left; focus (first | (with_reducible exact Nat.le_refl _) | (simp; done) | (simp; omega) | omega)) | (with_reducible refine bstep (by with_reducible assumption) ?_))))
        simp [results, Tryz.results7, go_sem, kcO2]
      | true =>
        have hv : boV mode s d m = true := by unfold boV; rw [h1, h2, h3]; rfl
        obtain ⟨g, Hg⟩ : ∃ g, Hid (boG mode s d m = g) := ⟨_, rfl⟩
        have e1 : boR mode s d m = d.r := by unfold boR; rw [hv]; rfl
        have e2 : boL mode s d m = pixL g d.r := by unfold boL; rw [hv, Hg.out]; rfl
        have e3 : boE mode s d m = 0 := by unfold boE; rw [h1, h2, h3]; rfl
        have hsd : bmValid s.r s.l = true ∧ bmValid d.r d.l = true := by have := h1; unfold vBm at this; simpa using this
        have HSn : Hid ((s.n : Int) = areaR s.r) := by unfold Hid; rw [← HS.out.ln]; exact (valid_cn hsd.1).2.1
        have HDn : Hid ((d.n : Int) = areaR d.r) := by unfold Hid; rw [← HD.out.ln]; exact (valid_cn hsd.2).2.1
        have HMn : Hid ((m.n : Int) = areaR m.r) := by unfold Hid; rw [← HM.out.ln]; exact (mk_cn h2).2.1
        have HDC : Hid (canonR d.r = d.r) := (valid_cn hsd.2).1
        rw [e1, e2, e3]
        clear e1 e2 e3 hv h1 h2 hall hsd
        go_enter Tryz.func7, Tryz.ntmps7
        go_wp2_with fail
        refine (ball_any _ 2 _ [s, d] _ (rd_of_bk (e := 26) encBm_len (Bk.new _ _ _ (by first | rfl | simp)) rfl) rfl (by omega) (fun x hx => (HAB.out x hx).below (by repeat (first | (with_reducible exact Below.refl _ _) | (with_reducible refine balloc ?_ _) | (with_reducible refine Below.drew ?_) | (with_reducible refine bdrewN ?_ _) | ((with_reducible refine bset ?_ ?_ _); rotate_left; focus (first | (with_reducible exact Nat.le_refl _) | (simp; done) | (simp; omega) | omega)) | (with_reducible refine bstep (by with_reducible assumption) ?_)))) HSZ.out true Hall).mono ?_
        rintro e w1 ⟨rfl, hb1⟩
        have kMM1 : Bk w1 (w.heap.size + 1 + 1 + 1) 29 #[.int .i64 m.r.x0, .int .i64 m.r.y0, .int .i64 m.r.x1, .int .i64 m.r.y1, .slice m.A m.n m.c] := (by repeat (first | (with_reducible assumption) | ((with_reducible refine Bk.new _ _ _ ?_); first | (with_reducible rfl) | (simp; done)) | (with_reducible refine Bk.alloc ?_ _) | (with_reducible refine Bk.drew ?_) | (with_reducible refine Bk.drewN ?_ _) | ((with_reducible refine Bk.far ?_ ?_ _); rotate_left; focus (first | (simp; done) | (simp; omega))) | (with_reducible refine Bk.below ?_ (by with_reducible assumption)))); obtain ⟨kcMM1, kfMM1, kaMM1, kgMM1, klMM1⟩ := kMM1.rules
        go_wp2_with fail
        refine (mvalid_any m.r m.A m.n m.c m.l _ (HM.out.rd.below (by repeat (first | (with_reducible exact Below.refl _ _) | (with_reducible refine balloc ?_ _) | (with_reducible refine Below.drew ?_) | (with_reducible refine bdrewN ?_ _) | ((with_reducible refine bset ?_ ?_ _); rotate_left; focus (first | (with_reducible exact Nat.le_refl _) | (simp; done) | (simp; omega) | omega)) | (with_reducible refine bstep (by with_reducible assumption) ?_)))) HM.out.ln hnm true Hvm).mono ?_
        rintro e w2 ⟨rfl, hb2⟩
        clear kcMM1 kfMM1 kaMM1 kgMM1
        have kE2 : Bk w2 (w.heap.size) 3 #[.int .i64 mode] := (by repeat (first | (with_reducible assumption) | ((with_reducible refine Bk.new _ _ _ ?_); first | (with_reducible rfl) | (simp; done)) | (with_reducible refine Bk.alloc ?_ _) | (with_reducible refine Bk.drew ?_) | (with_reducible refine Bk.drewN ?_ _) | ((with_reducible refine Bk.far ?_ ?_ _); rotate_left; focus (first | (simp; done) | (simp; omega))) | (with_reducible refine Bk.below ?_ (by with_reducible assumption)))); obtain ⟨kcE2, kfE2, kaE2, kgE2, klE2⟩ := kE2.rules; have kS2 : Bk w2 (w.heap.size + 1) 26 #[.int .i64 s.r.x0, .int .i64 s.r.y0, .int .i64 s.r.x1, .int .i64 s.r.y1, .slice s.A s.n s.c] := (by repeat (first | (with_reducible assumption) | ((with_reducible refine Bk.new _ _ _ ?_); first | (with_reducible rfl) | (simp; done)) | (with_reducible refine Bk.alloc ?_ _) | (with_reducible refine Bk.drew ?_) | (with_reducible refine Bk.drewN ?_ _) | ((with_reducible refine Bk.far ?_ ?_ _); rotate_left; focus (first | (simp; done) | (simp; omega))) | (with_reducible refine Bk.below ?_ (by with_reducible assumption)))); obtain ⟨kcS2, kfS2, kaS2, kgS2, klS2⟩ := kS2.rules; have kD2 : Bk w2 (w.heap.size + 1 + 1) 26 #[.int .i64 d.r.x0, .int .i64 d.r.y0, .int .i64 d.r.x1, .int .i64 d.r.y1, .slice d.A d.n d.c] := (by repeat (first | (with_reducible assumption) | ((with_reducible refine Bk.new _ _ _ ?_); first | (with_reducible rfl) | (simp; done)) | (with_reducible refine Bk.alloc ?_ _) | (with_reducible refine Bk.drew ?_) | (with_reducible refine Bk.drewN ?_ _) | ((with_reducible refine Bk.far ?_ ?_ _); rotate_left; focus (first | (simp; done) | (simp; omega))) | (with_reducible refine Bk.below ?_ (by with_reducible assumption)))); obtain ⟨kcD2, kfD2, kaD2, kgD2, klD2⟩ := kD2.rules; have kMM2 : Bk w2 (w.heap.size + 1 + 1 + 1) 29 #[.int .i64 m.r.x0, .int .i64 m.r.y0, .int .i64 m.r.x1, .int .i64 m.r.y1, .slice m.A m.n m.c] := (by repeat (first | (with_reducible assumption) | ((with_reducible refine Bk.new _ _ _ ?_); first | (with_reducible rfl) | (simp; done)) | (with_reducible refine Bk.alloc ?_ _) | (with_reducible refine Bk.drew ?_) | (with_reducible refine Bk.drewN ?_ _) | ((with_reducible refine Bk.far ?_ ?_ _); rotate_left; focus (first | (simp; done) | (simp; omega))) | (with_reducible refine Bk.below ?_ (by with_reducible assumption)))); obtain ⟨kcMM2, kfMM2, kaMM2, kgMM2, klMM2⟩ := kMM2.rules; have kO2 : Bk w2 (w.heap.size + 1 + 1 + 1 + 1) 26 #[.int .i64 0, .int .i64 0, .int .i64 0, .int .i64 0, .slice none 0 0] := (by repeat (first | (with_reducible assumption) | ((with_reducible refine Bk.new _ _ _ ?_); first | (with_reducible rfl) | (simp; done)) | (with_reducible refine Bk.alloc ?_ _) | (with_reducible refine Bk.drew ?_) | (with_reducible refine Bk.drewN ?_ _) | ((with_reducible refine Bk.far ?_ ?_ _); rotate_left; focus (first | (simp; done) | (simp; omega))) | (with_reducible refine Bk.below ?_ (by with_reducible assumption)))); obtain ⟨kcO2, kfO2, kaO2, kgO2, klO2⟩ := kO2.rules
        go_wp2_with fail
        refine (vmode_any mode _).mono ?_
        rintro e w3 ⟨rfl, rfl⟩
        go_wp2_with fail
        have hB3 : Below w.heap.size w w2 := (by repeat (first | (with_reducible exact Below.refl _ _) | (with_reducible refine balloc ?_ _) | (with_reducible refine Below.drew ?_) | (with_reducible refine bdrewN ?_ _) | ((with_reducible refine bset ?_ ?_ _); rotate_left; focus (first | (with_reducible exact Nat.le_refl _) | (simp; done) | (simp; omega) | omega)) | (with_reducible refine bstep (by with_reducible assumption) ?_)))
        refine (made_Blend d.r (w.heap.size) (w.heap.size + 1) (w.heap.size + 1 + 1) (w.heap.size + 1 + 1 + 1) g _ d.r HDC (fun x y w' _ _ _ _ hb => bo1_any mode x y _ _ _ _ s d m w w' (bstep hb hB3) HS HD HM hns hnd hnm HSn HDn HMn (kE2.below hb) (kS2.below hb) (kD2.below hb) (kMM2.below hb) (g x y) (by unfold Hid; rw [Hg.out]))).mono ?_
        rintro e w4 ⟨v4, rfl, ho4, hb4⟩
        have kO4 := kO2.below hb4
        have hB4 : Below w.heap.size w w4 := bstep hb4 hB3
        have ho := ho4.mono hB3.size
        clear kcE2 kfE2 kaE2 kgE2 kcS2 kfS2 kaS2 kgS2 kcD2 kfD2 kaD2 kgD2 kcMM2 kfMM2 kaMM2 kgMM2 kcO2 kfO2 kaO2 kgO2
        obtain ⟨A0, c0', hv0, _, _⟩ := ho.form encP_len
        generalize (pixL g d.r).length = n0 at hv0
        subst hv0
        obtain ⟨kc', kf', ka', kg', kl'⟩ := kO4.rules
        have o1 := ho.setFar kO4 (by decide) 0 (.int .i64 d.r.x0)
        have m1 := kO4.set 0 (.int .i64 d.r.x0)
        have o2 := o1.setFar m1 (by decide) 1 (.int .i64 d.r.y0)
        have m2 := m1.set 1 (.int .i64 d.r.y0)
        have o3 := o2.setFar m2 (by decide) 2 (.int .i64 d.r.x1)
        have m3 := m2.set 2 (.int .i64 d.r.x1)
        have o4 := o3.setFar m3 (by decide) 3 (.int .i64 d.r.y1)
        have m4 := m3.set 3 (.int .i64 d.r.y1)
        have o5 := o4.setFar m4 (by decide) 4 (.slice A0 n0 c0')
        clear o1 o2 o3 o4 m1 m2 m3 m4
        go_wp2
        refine bodyPost_ret (v := _) ?_ rfl ⟨_, rfl, o5, (by repeat (first | (with_reducible exact Below.refl _ _) | (with_reducible refine balloc ?_ _) | (with_reducible refine Below.drew ?_) | (with_reducible refine bdrewN ?_ _) | ((with_reducible refine bset ?_ ?_ _); rotate_left; focus (first | (with_reducible exact Nat.le_refl _) | (simp; done) | (simp; omega) | omega)) | (with_reducible refine bstep (by with_reducible assumption) ?_)))⟩
        simp [results, Tryz.results7, go_sem, kc']
end Go.Proofs.YtnefnnhnjmmebaaGreat
