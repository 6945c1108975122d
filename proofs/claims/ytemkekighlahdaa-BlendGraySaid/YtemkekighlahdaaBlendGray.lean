/- BlendGray: for every number and pixel the law grisaillelaw28.BlendGray returns true. No conditions. -/
import Derived.Test.YtemkekighlahdaaLaw28
namespace Go.Proofs.Ytemkekighlahdaa
open Go.ChangeShapes Go.WideShapes Go.ChangeAt Go.RowKit
set_option linter.unusedSimpArgs false
set_option linter.unusedVariables false

def encP (p : Px) : List Value := [.int .u8 p.r, .int .u8 p.g, .int .u8 p.b, .int .u8 p.a]
theorem encP_len (p : Px) : (encP p).length = 4 := rfl
theorem rdp {w : World} {A : Option Addr} {l : List Px} (h : RdL encP 4 w A l) {k : Nat} (hk : k < l.length) : ∃ g o, A = some ⟨g, o, none⟩ ∧ g < w.heap.size ∧
    w.cell? ⟨g, o + k * 4, none⟩ = some (.int .u8 (l[k]).r) ∧ w.cell? ⟨g, o + k * 4 + 1, none⟩ = some (.int .u8 (l[k]).g) ∧ w.cell? ⟨g, o + k * 4 + 2, none⟩ = some (.int .u8 (l[k]).b) ∧ w.cell? ⟨g, o + k * 4 + 3, none⟩ = some (.int .u8 (l[k]).a) := by
  obtain ⟨g, o, hA, hg, hc⟩ := h (by intro e; rw [e] at hk; simp at hk)
  exact ⟨g, o, hA, hg, hc k hk 0 _ rfl, hc k hk 1 _ rfl, hc k hk 2 _ rfl, hc k hk 3 _ rfl⟩
/-- What the law asks of each pixel. -/
def GrayOk (L : Int) (p : Px) : Prop := p.byte ∧ p.r = p.g ∧ p.r = p.b ∧ p.a = 255 ∧ lumaP p - L ≤ 50 ∧ L - lumaP p ≤ 50
theorem gray_ok {g : Int} (h0 : 0 ≤ g) (h1 : g ≤ 255) {d : Px} (hd : d.byte) :
    (∀ mode, mode = 10 ∨ mode = 11 ∨ mode = 12 → GrayOk (lumaP d) (blendP mode (grayP g) (opq d))) ∧ GrayOk (lumaP d) (blendP 13 (opq d) (grayP g)) := by
  have hgb : (grayP g).byte := ⟨h0, h1, h0, h1, h0, h1, (by decide : (0 : Int) ≤ 255), (by decide : (255 : Int) ≤ 255)⟩
  have hgo : opq (grayP g) = grayP g := rfl
  obtain ⟨g1, g2⟩ := blend_gray h0 h1 hd
  constructor
  · intro mode hm
    have hv : validModeB mode = true := by simp [validModeB]; omega
    have hb := (blend_ok hv hgb (opq_ok hd).byte).1.byte
    have hl := blend_luma (mode := mode) (by omega) hgb hd
    rw [hgo, if_neg (show ¬ mode = 13 by omega)] at hl
    exact ⟨hb, (g1 mode hm).1, (g1 mode hm).2, hl.1, hl.2 _ rfl⟩
  · have hb := (blend_ok (mode := 13) (by decide) (opq_ok hd).byte hgb).1.byte
    have hl := blend_luma (mode := 13) (by omega) hd hgb
    rw [hgo, if_pos rfl] at hl
    exact ⟨hb, g2.1, g2.2, hl.1, hl.2 _ rfl⟩
set_option maxHeartbeats 4000000 in
theorem walk_BlendGray (g : Int) (d : Px) (w : World) (hg0 : 0 ≤ g ∧ g ≤ 255) (hd : d.byte) :
    Calls Try.prog 10 #[.int .u8 g, .agg #[.int .u8 d.r, .int .u8 d.g, .int .u8 d.b, .int .u8 d.a]] w fun e w' => e = .returned (.bool true) ∧ Below w.heap.size w w' := by
  obtain ⟨e1, E1⟩ : ∃ p, Hid (blendP 10 (grayP g) (opq d) = p) := ⟨_, rfl⟩
  obtain ⟨e2, E2⟩ : ∃ p, Hid (blendP 11 (grayP g) (opq d) = p) := ⟨_, rfl⟩
  obtain ⟨e3, E3⟩ : ∃ p, Hid (blendP 12 (grayP g) (opq d) = p) := ⟨_, rfl⟩
  obtain ⟨e4, E4⟩ : ∃ p, Hid (blendP 13 (opq d) (grayP g) = p) := ⟨_, rfl⟩
  obtain ⟨G1, G2⟩ := gray_ok hg0.1 hg0.2 hd
  obtain ⟨ld, LD⟩ : ∃ n, Hid (lumaP d = n) := ⟨_, rfl⟩
  have LD' : Hid (lumaP (opq d) = ld) := LD.out
  have fd := luma_bd hd
  rw [LD.out] at fd G1 G2
  have HG : Hid (∀ p ∈ [e1, e2, e3, e4], GrayOk ld p) := fun p hp => by
    simp only [List.mem_cons, List.not_mem_nil, or_false] at hp
    rcases hp with rfl | rfl | rfl | rfl
    · rw [← E1.out]; exact G1 10 (by omega)
    · rw [← E2.out]; exact G1 11 (by omega)
    · rw [← E3.out]; exact G1 12 (by omega)
    · rw [← E4.out]; exact G2
  have HX : Hid (Px.byte ⟨g, g, g, 255⟩) := ⟨hg0.1, hg0.2, hg0.1, hg0.2, hg0.1, hg0.2, (by decide : (0 : Int) ≤ 255), (by decide : (255 : Int) ≤ 255)⟩
  have HY := Lib.hid (opq_ok hd).byte
  clear hd G1 G2
  go_enter Try.func10, Try.ntmps10
  go_wp2_with fail
  refine wp_region_mixs 9 [0, 1, 2, 3, 4] [] [5, 6] [7, 8] (fun _ => 29) (fun _ => #[.int .u8 0, .int .u8 0, .int .u8 0, .int .u8 0]) (by kernel_rfl) (by kernel_rfl) (fun c a d v w h => by cases d <;> exact h) (fun c a d v w h => by cases d <;> exact h) (fun j hj => by simp only [List.mem_cons, List.not_mem_nil, or_false] at hj; rcases hj with rfl | rfl <;> exact ⟨_, rfl, rfl, fun a w => by go_simp; rfl⟩) ?_
  simp only [List.map_cons, List.map_nil]
  repeat (refine wpGo_pure (v := ?_) rfl rfl (fun w' hS => ?_) ?_; rotate_left; (· have kDp : Bk w' (w.heap.size) 29 #[.int .u8 d.r, .int .u8 d.g, .int .u8 d.b, .int .u8 d.a] := (by repeat (first | (with_reducible assumption) | ((with_reducible refine Bk.new _ _ _ ?_); first | (with_reducible rfl) | (simp; done)) | (with_reducible refine Bk.alloc ?_ _) | (with_reducible refine Bk.drew ?_) | (with_reducible refine Bk.drewN ?_ _) | ((with_reducible refine Bk.far ?_ ?_ _); rotate_left; focus (first | (simp; done) | (simp; omega))) | (with_reducible refine Bk.below ?_ (by with_reducible assumption)))); obtain ⟨kcDp, kfDp, kaDp, kgDp, klDp⟩ := kDp.rules; go_simp; exact rfl); (try simp only [Act.put, List.setIfInBounds_toArray, List.set_cons_zero, List.set_cons_succ]))
  refine wpGo_nil ?_
  refine wpMix_end (fun β w1 hb1 hbk hne => ?_)
  obtain ⟨k5, l5⟩ := hbk 5 (by simp)
  obtain ⟨k6, l6⟩ := hbk 6 (by simp)
  have ne56 := hne 5 (by simp) 6 (by simp) (by decide)
  clear hbk hne
  simp only [putAll, dstOf, ptrTo, List.foldl_cons, List.foldl_nil, List.getElem?_toArray, List.getElem?_cons_succ, List.getElem?_cons_zero, Option.bind_some, Act.put, List.setIfInBounds_toArray, List.set_cons_zero, List.set_cons_succ, List.drop_succ_cons, List.drop_zero]
  generalize β 5 = b5 at *
  generalize β 6 = b6 at *
  clear β
  have l5' : w.heap.size + 1 ≤ b5 := by simpa using l5
  have l6' : w.heap.size + 1 ≤ b6 := by simpa using l6
  clear l5 l6
  obtain ⟨kc5, kf5, ka5, kg5, kl5⟩ := k5.rules
  obtain ⟨kc6, kf6, ka6, kg6, kl6⟩ := k6.rules
  refine wpGo_eff rfl (fun K hK => ?_)
  go_simp
  refine hK.out _ _ (by repeat (first | (with_reducible exact Below.refl _ _) | (with_reducible refine balloc ?_ _) | (with_reducible refine Below.drew ?_) | (with_reducible refine bdrewN ?_ _) | ((with_reducible refine bset ?_ ?_ _); rotate_left; focus (first | (with_reducible exact Nat.le_refl _) | (simp; done) | (simp; omega) | omega)) | (with_reducible refine bstep (by with_reducible assumption) ?_))) (fun hS2 => ?_)
  clear hK K
  refine wpGo_eff rfl (fun K hK => ?_)
  go_simp
  refine hK.out _ _ (by repeat (first | (with_reducible exact Below.refl _ _) | (with_reducible refine balloc ?_ _) | (with_reducible refine Below.drew ?_) | (with_reducible refine bdrewN ?_ _) | ((with_reducible refine bset ?_ ?_ _); rotate_left; focus (first | (with_reducible exact Nat.le_refl _) | (simp; done) | (simp; omega) | omega)) | (with_reducible refine bstep (by with_reducible assumption) ?_))) (fun hS3 => ?_)
  clear hK K
  refine wpGo_nil ?_
  have jX : Bk _ b5 29 #[.int .u8 g, .int .u8 g, .int .u8 g, .int .u8 255] := (((((((((k5.set 0 (.int .u8 g)).set 1 (.int .u8 g)).set 2 (.int .u8 g)).set 3 (.int .u8 255)).far (p := ⟨b6, 0, none⟩) ne56 (.int .u8 d.r)).far (p := ⟨b6, 1, none⟩) ne56 (.int .u8 d.g)).far (p := ⟨b6, 2, none⟩) ne56 (.int .u8 d.b)).far (p := ⟨b6, 3, none⟩) ne56 (.int .u8 d.a)).far (p := ⟨b6, 3, none⟩) ne56 (.int .u8 255))
  have jY : Bk _ b6 29 #[.int .u8 d.r, .int .u8 d.g, .int .u8 d.b, .int .u8 255] := (((((((((k6.far (p := ⟨b5, 0, none⟩) ne56.symm (.int .u8 g)).far (p := ⟨b5, 1, none⟩) ne56.symm (.int .u8 g)).far (p := ⟨b5, 2, none⟩) ne56.symm (.int .u8 g)).far (p := ⟨b5, 3, none⟩) ne56.symm (.int .u8 255)).set 0 (.int .u8 d.r)).set 1 (.int .u8 d.g)).set 2 (.int .u8 d.b)).set 3 (.int .u8 d.a)).set 3 (.int .u8 255))
  have hW0 : Below w.heap.size w w1 := (by repeat (first | (with_reducible exact Below.refl _ _) | (with_reducible refine balloc ?_ _) | (with_reducible refine Below.drew ?_) | (with_reducible refine bdrewN ?_ _) | ((with_reducible refine bset ?_ ?_ _); rotate_left; focus (first | (with_reducible exact Nat.le_refl _) | (simp; done) | (simp; omega) | omega)) | (with_reducible refine bstep (by with_reducible assumption) ?_)))
  have hV : Below w.heap.size w (((((((((w1.setCell ⟨b5, 0, none⟩ (.int .u8 g)).setCell ⟨b5, 1, none⟩ (.int .u8 g)).setCell ⟨b5, 2, none⟩ (.int .u8 g)).setCell ⟨b5, 3, none⟩ (.int .u8 255)).setCell ⟨b6, 0, none⟩ (.int .u8 d.r)).setCell ⟨b6, 1, none⟩ (.int .u8 d.g)).setCell ⟨b6, 2, none⟩ (.int .u8 d.b)).setCell ⟨b6, 3, none⟩ (.int .u8 d.a)).setCell ⟨b6, 3, none⟩ (.int .u8 255)) := (by repeat (first | (with_reducible exact Below.refl _ _) | (with_reducible refine balloc ?_ _) | (with_reducible refine Below.drew ?_) | (with_reducible refine bdrewN ?_ _) | ((with_reducible refine bset ?_ ?_ _); rotate_left; focus (first | (with_reducible exact Nat.le_refl _) | (simp; done) | (simp; omega) | omega)) | (with_reducible refine bstep (by with_reducible assumption) ?_)))
  go_wp2_with fail
  generalize (((((((((w1.setCell ⟨b5, 0, none⟩ (.int .u8 g)).setCell ⟨b5, 1, none⟩ (.int .u8 g)).setCell ⟨b5, 2, none⟩ (.int .u8 g)).setCell ⟨b5, 3, none⟩ (.int .u8 255)).setCell ⟨b6, 0, none⟩ (.int .u8 d.r)).setCell ⟨b6, 1, none⟩ (.int .u8 d.g)).setCell ⟨b6, 2, none⟩ (.int .u8 d.b)).setCell ⟨b6, 3, none⟩ (.int .u8 d.a)).setCell ⟨b6, 3, none⟩ (.int .u8 255)) = w9 at hV jX jY ⊢
  clear k5 k6 kc5 kf5 ka5 kg5 kl5 kc6 kf6 ka6 kg6 kl6 hS2 hS3 hW0 hb1
  refine wp_region_gob 14 [(0, true), (1, true), (3, true), (4, true), (6, true), (7, true), (9, true), (10, true), (2, false), (5, false), (8, false), (11, false), (12, false), (13, true)] (by kernel_rfl) (by kernel_rfl) (fun c a d v w h => by cases d <;> exact h) ?_
  repeat (refine wpGo_pure (v := ?_) rfl rfl (fun w' hS => ?_) ?_; rotate_left; (· have kXp : Bk w' (b5) 29 #[.int .u8 g, .int .u8 g, .int .u8 g, .int .u8 255] := (by repeat (first | (with_reducible assumption) | ((with_reducible refine Bk.new _ _ _ ?_); first | (with_reducible rfl) | (simp; done)) | (with_reducible refine Bk.alloc ?_ _) | (with_reducible refine Bk.drew ?_) | (with_reducible refine Bk.drewN ?_ _) | ((with_reducible refine Bk.far ?_ ?_ _); rotate_left; focus (first | (simp; done) | (simp; omega))) | (with_reducible refine Bk.below ?_ (by with_reducible assumption)))); obtain ⟨kcXp, kfXp, kaXp, kgXp, klXp⟩ := kXp.rules; have kYp : Bk w' (b6) 29 #[.int .u8 d.r, .int .u8 d.g, .int .u8 d.b, .int .u8 255] := (by repeat (first | (with_reducible assumption) | ((with_reducible refine Bk.new _ _ _ ?_); first | (with_reducible rfl) | (simp; done)) | (with_reducible refine Bk.alloc ?_ _) | (with_reducible refine Bk.drew ?_) | (with_reducible refine Bk.drewN ?_ _) | ((with_reducible refine Bk.far ?_ ?_ _); rotate_left; focus (first | (simp; done) | (simp; omega))) | (with_reducible refine Bk.below ?_ (by with_reducible assumption)))); obtain ⟨kcYp, kfYp, kaYp, kgYp, klYp⟩ := kYp.rules; go_simp; exact rfl); (try simp only [Act.put, List.setIfInBounds_toArray, List.set_cons_zero, List.set_cons_succ]))
  refine wpGo_eff rfl (fun K hK => ?_)
  go_simp
  refine (blend_q 10 ⟨g, g, g, 255⟩ (opq d) _ HX.out HY.out e1 E1).mono ?_
  rintro e w10 ⟨rfl, hb10⟩
  refine hK.out _ _ (by repeat (first | (with_reducible exact Below.refl _ _) | (with_reducible refine balloc ?_ _) | (with_reducible refine Below.drew ?_) | (with_reducible refine bdrewN ?_ _) | ((with_reducible refine bset ?_ ?_ _); rotate_left; focus (first | (with_reducible exact Nat.le_refl _) | (simp; done) | (simp; omega) | omega)) | (with_reducible refine bstep (by with_reducible assumption) ?_))) (fun hS10 => ?_)
  clear hK K
  refine wpGo_eff rfl (fun K hK => ?_)
  go_simp
  refine (blend_q 11 ⟨g, g, g, 255⟩ (opq d) _ HX.out HY.out e2 E2).mono ?_
  rintro e w11 ⟨rfl, hb11⟩
  refine hK.out _ _ (by repeat (first | (with_reducible exact Below.refl _ _) | (with_reducible refine balloc ?_ _) | (with_reducible refine Below.drew ?_) | (with_reducible refine bdrewN ?_ _) | ((with_reducible refine bset ?_ ?_ _); rotate_left; focus (first | (with_reducible exact Nat.le_refl _) | (simp; done) | (simp; omega) | omega)) | (with_reducible refine bstep (by with_reducible assumption) ?_))) (fun hS11 => ?_)
  clear hK K
  refine wpGo_eff rfl (fun K hK => ?_)
  go_simp
  refine (blend_q 12 ⟨g, g, g, 255⟩ (opq d) _ HX.out HY.out e3 E3).mono ?_
  rintro e w12 ⟨rfl, hb12⟩
  refine hK.out _ _ (by repeat (first | (with_reducible exact Below.refl _ _) | (with_reducible refine balloc ?_ _) | (with_reducible refine Below.drew ?_) | (with_reducible refine bdrewN ?_ _) | ((with_reducible refine bset ?_ ?_ _); rotate_left; focus (first | (with_reducible exact Nat.le_refl _) | (simp; done) | (simp; omega) | omega)) | (with_reducible refine bstep (by with_reducible assumption) ?_))) (fun hS12 => ?_)
  clear hK K
  refine wpGo_eff rfl (fun K hK => ?_)
  go_simp
  refine (blend_q 13 (opq d) ⟨g, g, g, 255⟩ _ HY.out HX.out e4 E4).mono ?_
  rintro e w13 ⟨rfl, hb13⟩
  refine hK.out _ _ (by repeat (first | (with_reducible exact Below.refl _ _) | (with_reducible refine balloc ?_ _) | (with_reducible refine Below.drew ?_) | (with_reducible refine bdrewN ?_ _) | ((with_reducible refine bset ?_ ?_ _); rotate_left; focus (first | (with_reducible exact Nat.le_refl _) | (simp; done) | (simp; omega) | omega)) | (with_reducible refine bstep (by with_reducible assumption) ?_))) (fun hS13 => ?_)
  clear hK K
  refine wpGo_eff rfl (fun K hK => ?_)
  go_simp
  refine hK.out _ _ (by repeat (first | (with_reducible exact Below.refl _ _) | (with_reducible refine balloc ?_ _) | (with_reducible refine Below.drew ?_) | (with_reducible refine bdrewN ?_ _) | ((with_reducible refine bset ?_ ?_ _); rotate_left; focus (first | (with_reducible exact Nat.le_refl _) | (simp; done) | (simp; omega) | omega)) | (with_reducible refine bstep (by with_reducible assumption) ?_))) (fun hS14 => ?_)
  clear hK K
  repeat (refine wpGo_pure (v := ?_) rfl rfl (fun w' hS => ?_) ?_; rotate_left; (· skip; go_simp; exact rfl); (try simp only [Act.put, List.setIfInBounds_toArray, List.set_cons_zero, List.set_cons_succ]))
  refine wpGo_nil ?_
  simp only [List.drop_succ_cons, List.drop_zero]
  have hR : RdL encP 4 (w13.alloc (.cells #[.int .u8 e1.r, .int .u8 e1.g, .int .u8 e1.b, .int .u8 e1.a, .int .u8 e2.r, .int .u8 e2.g, .int .u8 e2.b, .int .u8 e2.a, .int .u8 e3.r, .int .u8 e3.g, .int .u8 e3.b, .int .u8 e3.a, .int .u8 e4.r, .int .u8 e4.g, .int .u8 e4.b, .int .u8 e4.a] 29)) (some ⟨w13.heap.size, 0, none⟩) [e1, e2, e3, e4] := rd_of_bk encP_len (Bk.new _ _ _ rfl) rfl
  have HR := Lib.hid hR
  have jY13 := jY.below hS14
  have hUU : Below w.heap.size w _ := bstep hS14 hV
  clear hR hb10 hb11 hb12 hb13 hS10 hS11 hS12 hS13 hS14 jX jY hV
  go_wp2_with fail
  generalize (w13.alloc (.cells #[.int .u8 e1.r, .int .u8 e1.g, .int .u8 e1.b, .int .u8 e1.a, .int .u8 e2.r, .int .u8 e2.g, .int .u8 e2.b, .int .u8 e2.a, .int .u8 e3.r, .int .u8 e3.g, .int .u8 e3.b, .int .u8 e3.a, .int .u8 e4.r, .int .u8 e4.g, .int .u8 e4.b, .int .u8 e4.a] 29)) = w20 at HR jY13 hUU ⊢
  have hsl := (w13.heap.size)
  clear hsl
  generalize w13.heap.size = gb0 at HR ⊢
  go_loopw [8] (fun i wr => ∃ k : Nat, k ≤ 4 ∧ i = .int .i64 k ∧ Below w20.heap.size w20 wr) (fun i _ => 4 - (intOf i).toNat)
  case atStart => exact ⟨0, by omega, rfl, Below.refl _ _⟩
  case round =>
    obtain ⟨k, hk, rfl, hbw⟩ := hrel
    have jYr := jY13.below hbw
    by_cases hlt : k < 4
    · have hkl : k < [e1, e2, e3, e4].length := hlt
      obtain ⟨gb, ob, hA, hg, hcA⟩ := rdp (HR.out.below hbw) hkl
      injection hA with hA
      injection hA with z1 z2 z3
      subst z1 z2
      clear z3
      obtain ⟨p, Hp⟩ : ∃ r, Hid ([e1, e2, e3, e4][k] = r) := ⟨[e1, e2, e3, e4][k], rfl⟩
      obtain ⟨o1, o2, o3, o4, o5, o6⟩ := HG.out _ (List.getElem_mem hkl)
      rw [Hp.out] at hcA o1 o2 o3 o4 o5 o6
      simp only [Nat.zero_add] at hcA
      have QA := Lib.hid hcA
      obtain ⟨n, Hn⟩ : ∃ n, Hid (lumaP p = n) := ⟨_, rfl⟩
      have fn := luma_bd o1
      rw [Hn.out] at o5 o6 fn
      have PB := Lib.hid o1
      have t1 : (p.r != p.g) = false := by rw [o2]; simp
      have t2 : (p.r != p.b) = false := by rw [o3]; simp
      have t3 : (p.a != 255) = false := by rw [o4]; rfl
      have i0 : (0 : Int) ≤ (k : Int) := by omega
      have i1 : (k : Int) < 4 := by omega
      clear o1 o2 o3 o4 hcA Hp hkl
      go_wp2_with fail
      refine wp_region_gob 43 [(0, true), (1, true), (2, true), (3, true), (4, true), (5, true), (6, true), (7, true), (8, true), (9, true), (10, true), (11, true), (12, true), (13, true), (14, true), (15, true), (16, true), (17, true), (18, true), (19, true), (20, true), (21, true), (22, true), (23, true), (24, true), (25, true), (26, true), (27, true), (28, true), (29, true), (30, true), (31, true), (32, true), (33, true), (34, true), (35, true), (36, true), (38, true), (37, false), (39, false), (40, false), (41, true), (42, true)] (by kernel_rfl) (by kernel_rfl) (fun c a d v w h => by cases d <;> exact h) ?_
      repeat (refine wpGo_pure (v := ?_) rfl rfl (fun w' hS => ?_) ?_; rotate_left; (· obtain ⟨q0, q1, q2, q3⟩ := QA.out; have qr0 := (hS.cell (p := ⟨gb0,  k * 4, none⟩) hg).trans q0; have qr1 := (hS.cell (p := ⟨gb0,  k * 4 + 1, none⟩) hg).trans q1; have qr2 := (hS.cell (p := ⟨gb0,  k * 4 + 2, none⟩) hg).trans q2; have qr3 := (hS.cell (p := ⟨gb0,  k * 4 + 3, none⟩) hg).trans q3; have kYp : Bk w' (b6) 29 #[.int .u8 d.r, .int .u8 d.g, .int .u8 d.b, .int .u8 255] := (by repeat (first | (with_reducible assumption) | ((with_reducible refine Bk.new _ _ _ ?_); first | (with_reducible rfl) | (simp; done)) | (with_reducible refine Bk.alloc ?_ _) | (with_reducible refine Bk.drew ?_) | (with_reducible refine Bk.drewN ?_ _) | ((with_reducible refine Bk.far ?_ ?_ _); rotate_left; focus (first | (simp; done) | (simp; omega))) | (with_reducible refine Bk.below ?_ (by with_reducible assumption)))); obtain ⟨kcYp, kfYp, kaYp, kgYp, klYp⟩ := kYp.rules; go_simp; exact rfl); (try simp only [Act.put, List.setIfInBounds_toArray, List.set_cons_zero, List.set_cons_succ]))
      refine wpGo_eff rfl (fun K hK => ?_)
      go_simp
      refine (luma_any p n Hn _ PB.out).mono ?_
      rintro e w40 ⟨rfl, hb40⟩
      refine hK.out _ _ (by repeat (first | (with_reducible exact Below.refl _ _) | (with_reducible refine balloc ?_ _) | (with_reducible refine Below.drew ?_) | (with_reducible refine bdrewN ?_ _) | ((with_reducible refine bset ?_ ?_ _); rotate_left; focus (first | (with_reducible exact Nat.le_refl _) | (simp; done) | (simp; omega) | omega)) | (with_reducible refine bstep (by with_reducible assumption) ?_))) (fun hS40 => ?_)
      clear hK K
      refine wpGo_eff rfl (fun K hK => ?_)
      go_simp
      refine (luma_any (opq d) ld LD' _ HY.out).mono ?_
      rintro e w41 ⟨rfl, hb41⟩
      refine hK.out _ _ (by repeat (first | (with_reducible exact Below.refl _ _) | (with_reducible refine balloc ?_ _) | (with_reducible refine Below.drew ?_) | (with_reducible refine bdrewN ?_ _) | ((with_reducible refine bset ?_ ?_ _); rotate_left; focus (first | (with_reducible exact Nat.le_refl _) | (simp; done) | (simp; omega) | omega)) | (with_reducible refine bstep (by with_reducible assumption) ?_))) (fun hS41 => ?_)
      clear hK K
      refine wpGo_eff rfl (fun K hK => ?_)
      go_simp
      refine (near_any n ld _ fn.1 fn.2 fd.1 fd.2 o5 o6).mono ?_
      rintro e w42 ⟨rfl, hb42⟩
      refine hK.out _ _ (by repeat (first | (with_reducible exact Below.refl _ _) | (with_reducible refine balloc ?_ _) | (with_reducible refine Below.drew ?_) | (with_reducible refine bdrewN ?_ _) | ((with_reducible refine bset ?_ ?_ _); rotate_left; focus (first | (with_reducible exact Nat.le_refl _) | (simp; done) | (simp; omega) | omega)) | (with_reducible refine bstep (by with_reducible assumption) ?_))) (fun hS42 => ?_)
      clear hK K
      repeat (refine wpGo_pure (v := ?_) rfl rfl (fun w' hS => ?_) ?_; rotate_left; (· skip; go_simp; exact rfl); (try simp only [Act.put, List.setIfInBounds_toArray, List.set_cons_zero, List.set_cons_succ]))
      refine wpGo_nil ?_
      simp only [List.drop_succ_cons, List.drop_zero]
      have hb' : Below w20.heap.size w20 w42 := bstep hS42 hbw
      clear t1 t2 t3 hb40 hb41 hb42 hS40 hS41 hS42 QA
      go_wp2
      go_roundw
      case rel => exact ⟨k + 1, by omega, by go_num, hb'⟩
      case measure => simp [intOf]; omega
    · go_wp2_with fail
      refine (ex_any _).mono ?_
      rintro e w30 ⟨rfl, hb30⟩
      go_wp2
      go_ret
      exact ⟨rfl, bstep hb30 (bstep hbw hUU)⟩

set_option maxRecDepth 100000 in
theorem lifted_BlendGray (os : Os) (started : os.Started) (H : Type) (enc : TypeId × Value → H) :
    ReturnsInHanded {} Try.checked os 10 .any (Rows.blendGraySpec.pre6 enc Try.prog Try.f10 Rows.blendGrayRow.domain false) (Rows.blendGraySpec.post enc Try.prog Try.f10 false true false false) := by
  refine returnsInHanded_of_change (C := Try.checked) Try.own started (by kernel_rfl) Try.func10
    (ChangeSpec.witness6 (enc := enc) (C := Try.checked) false ⟨#[], #[.int .u8 0, .agg #[.int .u8 0, .int .u8 0, .int .u8 0, .int .u8 0]], []⟩ 8 (by kernel_rfl) (by kernel_rfl) (by kernel_rfl) (by kernel_rfl)) ?_
  intro W base args ds gs before hval0 hW hcnd _
  have hval : ∀ (j : Nat) t v, Try.f10.params[j]? = some t → args[j]? = some v → Value.okWide Try.prog W .any base t v := hval0
  have hW' := hW
  obtain ⟨p, q, hA0, hV, rfl, hfz, hnd⟩ := hW
  have hA : DataW.TrodAll enc Try.prog W 0 (fun _ => true) true Try.f10.params.toList args.toList ds p := hA0
  rw [Try.params10] at hA hval
  obtain ⟨v0, vs0, d0, ds0, p0, q0, hargs, rfl, rfl, h0, r0⟩ := trodAll_cons hA
  obtain ⟨v1, vs1, d1, ds1, p1, q1, rfl, rfl, rfl, h1, r1⟩ := trodAll_cons r0
  obtain ⟨rfl, rfl, rfl⟩ := trodAll_nil r1
  obtain rfl : args = #[v0, v1] := by cases args; simp_all
  obtain ⟨x0, rfl, _, _, g0⟩ := open_int Try.underlying5 (hval 0 5 v0 rfl rfl) h0
  obtain ⟨c10, c11, c12, c13, y10, y11, y12, y13, n1, rfl, _, _, f10, f11, f12, f13⟩ := Joins.open_agg4 Try.underlying29 (by kernel_rfl) (by kernel_rfl) (hval 1 29 v1 rfl rfl) h1
  obtain ⟨x10, rfl, g10⟩ := fld_int Try.underlying5 f10
  obtain ⟨x11, rfl, g11⟩ := fld_int Try.underlying5 f11
  obtain ⟨x12, rfl, g12⟩ := fld_int Try.underlying5 f12
  obtain ⟨x13, rfl, g13⟩ := fld_int Try.underlying5 f13
  refine (walk_BlendGray x0 ⟨x10, x11, x12, x13⟩ W (bounds_u8 g0) (px_byte g10 g11 g12 g13)).mono fun e W' ⟨he, hb⟩ => ?_
  subst he
  exact ⟨_, rfl, law_post (tb := 4) Try.laidOut (by kernel_rfl) hW' rfl rfl Try.underlying4 rfl rfl rfl hb⟩

theorem BlendGray_holds : Rows.BlendGraySaid :=
  OpenClaim.holds_of_wide 10 Try.f10 rfl rfl rfl rfl rfl rfl rfl ⟨rfl, rfl, rfl, rfl, rfl⟩ rfl rfl rfl rfl rfl (by kernel_rfl) Try.func10 (by kernel_rfl)
    (of_decide_eq_true (by kernel_rfl)) (by unfold Func.isWrapper; first | (rw [if_pos (by decide +kernel)]; kernel_rfl) | (rw [if_neg (by decide +kernel)]; exact ⟨rfl, rfl⟩))
    (fun os started H enc _ => lifted_BlendGray os started H enc)
#print axioms BlendGray_holds
end Go.Proofs.Ytemkekighlahdaa
