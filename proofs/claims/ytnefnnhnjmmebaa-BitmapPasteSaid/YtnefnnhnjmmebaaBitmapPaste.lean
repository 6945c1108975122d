/- BitmapPaste: for every bitmap and every slice of bitmaps the law grisaillelaw30.BitmapPaste returns true. No conditions. -/
import Derived.Test.YtnefnnhnjmmebaaPasteQ
import Derived.Test.YtnefnnhnjmmebaaBmRPaste
import Derived.Test.YtnefnnhnjmmebaaBm8
import Derived.Test.YtnefnnhnjmmebaaEx30
import Derived.Test.YtnefnnhnjmmebaaOpenB
import Derived.Test.YtnefnnhnjmmebaaList4
import Derived.Test.YtnefnnhnjmmebaaBmClone
namespace Go.Proofs.Ytnefnnhnjmmebaa
open Go.ChangeShapes Go.WideShapes Go.ChangeAt Go.RowKit
set_option linter.unusedSimpArgs false
set_option linter.unusedVariables false

def eraB (b : Bm) : Bm := ⟨b.r, none, 0, 0, b.l⟩
theorem eraB_all (l : List Bm) : (l.map eraB).all vBm = l.all vBm := by rw [List.all_map]; rfl
theorem eraB_G (l : List Bm) (h : Int → Int → Px) : pstG (l.map eraB) h = pstG l h := by unfold pstG; rw [List.foldl_map]; rfl
theorem pas_era {x s : Bm} {cl l : List Bm} (hr : x.r = s.r) (hl : x.l = s.l) (h : cl.map eraB = l.map eraB) : pasR x cl = pasR s l ∧ pasL x cl = pasL s l ∧ pasE x cl = pasE s l := by
  have e1 : pasB x cl = pasB s l := by
    unfold pasB
    rw [← eraB_all cl, h, eraB_all]
    unfold vBm; rw [hr, hl]
  have e2 : ∀ g, pstG cl g = pstG l g := fun g => by rw [← eraB_G cl, h, eraB_G]
  unfold pasR pasL pasE
  rw [e1, e2, hr, hl]
  exact ⟨rfl, rfl, rfl⟩
theorem encBm_one (b : Bm) : ∀ u ∈ encBm b, u.oneCell' = true := by intro u hu; simp [encBm] at hu; rcases hu with rfl | rfl | rfl | rfl | rfl <;> rfl
theorem Try.infoBm : (Try.prog.info? 28).map (fun i => (i.zero, i.size, i.bytes)) = some (some (.agg #[.int .i64 0, .int .i64 0, .int .i64 0, .int .i64 0, .slice none 0 0]), 5, 56) := by kernel_rfl
/-- Copies of bitmaps: they lie in blocks of the call's own. -/
def CpsB (w : World) (base : Nat) (cl l : List Bm) : Prop := cl.map eraB = l.map eraB ∧ ∀ b ∈ cl, OwnL encP 25 4 w base (.slice b.A b.n b.c) b.l ∧ b.n ≤ 2000 ∧ pxsB b.l
theorem CpsB.snoc {w : World} {base : Nat} {cl l : List Bm} {b c : Bm} (h : CpsB w base cl l) (he : eraB b = eraB c) (ho : OwnL encP 25 4 w base (.slice b.A b.n b.c) b.l) (hn : b.n ≤ 2000) (hb : pxsB b.l) : CpsB w base (cl ++ [b]) (l ++ [c]) :=
  ⟨by rw [List.map_append, List.map_append, h.1]; simp [he], fun x hx => by
    rcases List.mem_append.1 hx with h' | h'
    · exact h.2 x h'
    · rw [List.mem_singleton.1 h']; exact ⟨ho, hn, hb⟩⟩
theorem CpsB.below {w w' : World} {base : Nat} {cl l : List Bm} (h : CpsB w base cl l) (hb : Below w.heap.size w w') : CpsB w' base cl l := ⟨h.1, fun b hx => ⟨(h.2 b hx).1.below hb, (h.2 b hx).2⟩⟩
theorem CpsB.grown {w w' : World} {base base' : Nat} {cl l cl' : List Bm} {v : Value} (h : CpsB w base cl l) (ho : OwnL encBm 28 5 w base' v cl') (hg : w.grownBy w' v.ownBlock) : CpsB w' base cl l :=
  ⟨h.1, fun b hx => ⟨(h.2 b hx).1.fr (Fr.grown (Fr.refl base' [28] w) ho hg (by simp)) (by decide), (h.2 b hx).2⟩⟩
theorem CpsB.ok {w : World} {base : Nat} {cl l : List Bm} (h : CpsB w base cl l) : ∀ b ∈ cl, b.ok w := fun b hx => by
  obtain ⟨ho, hn, hb⟩ := h.2 b hx
  obtain ⟨A, c, hv, hr, hle, hmx⟩ := ho.form2 encP_len
  injection hv with h1 h2 h3
  exact ⟨by rw [h1]; exact hr, h2.symm, hb, by rw [h2, h3]; exact hle, by rw [h3]; exact hmx⟩
theorem eraB_eq {b c : Bm} (h : eraB b = eraB c) : b.r = c.r ∧ b.l = c.l := by
  unfold eraB at h; injection h with h1 _ _ _ h2; exact ⟨h1, h2⟩
theorem take_one {α : Type} {l : List α} {k : Nat} (h : k < l.length) : l.take (k + 1) = l.take k ++ [l[k]] := List.take_succ_eq_append_getElem h
set_option maxRecDepth 100000 in
set_option maxHeartbeats 6400000 in
theorem walk_BitmapPaste (s : Bm) (A : Option Addr) (n c : Nat) (l : List Bm) (w : World) (hs : s.ok w) (hr : RdL encBm 5 w A l) (hn : l.length = n) (ho : ∀ b ∈ l, b.ok w) (hnc : n ≤ c) (hcm : c ≤ maxLen) :
    Calls Try.prog 6 #[.agg #[.int .i64 s.r.x0, .int .i64 s.r.y0, .int .i64 s.r.x1, .int .i64 s.r.y1, .slice s.A s.n s.c], .slice A n c] w fun e w' => e = .returned (.bool true) ∧ Below w.heap.size w w' := by
  have HS := Lib.hid hs
  have HR := Lib.hid hr
  have Hn := Lib.hid hn
  have HO := Lib.hid ho
  clear hs hr hn ho
  cases h1 : decide (s.n ≤ 2000) with
  | false =>
    have HSs := Lib.hid h1
    clear h1
    go_enter Try.func6, Try.ntmps6
    go_wp2_with fail
    refine (small_any s.r s.A s.n s.c _ false HSs).mono ?_
    rintro e w1 ⟨rfl, hb1⟩
    go_wp2_with fail
    refine (ex_any _).mono ?_
    rintro e w2 ⟨rfl, hb2⟩
    go_wp2
    go_ret
    exact ⟨rfl, (by repeat (first | (with_reducible exact Below.refl _ _) | (with_reducible refine balloc ?_ _) | (with_reducible refine Below.drew ?_) | (with_reducible refine bdrewN ?_ _) | ((with_reducible refine bset ?_ ?_ _); rotate_left; focus (first | (with_reducible exact Nat.le_refl _) | (simp; done) | (simp; omega) | omega)) | (with_reducible refine bstep (by with_reducible assumption) ?_)))⟩
  | true =>
    have HSs := Lib.hid h1
    have l1 := of_decide_eq_true h1
    clear h1
    by_cases h12 : (12 : Int) < (n : Int)
    · skip
      go_enter Try.func6, Try.ntmps6
      go_wp2_with fail
      refine (small_any s.r s.A s.n s.c _ true HSs).mono ?_
      rintro e w1 ⟨rfl, hb1⟩
      go_wp2_with fail
      refine (ex_any _).mono ?_
      rintro e w2 ⟨rfl, hb2⟩
      go_wp2
      go_ret
      exact ⟨rfl, (by repeat (first | (with_reducible exact Below.refl _ _) | (with_reducible refine balloc ?_ _) | (with_reducible refine Below.drew ?_) | (with_reducible refine bdrewN ?_ _) | ((with_reducible refine bset ?_ ?_ _); rotate_left; focus (first | (with_reducible exact Nat.le_refl _) | (simp; done) | (simp; omega) | omega)) | (with_reducible refine bstep (by with_reducible assumption) ?_)))⟩
    · have h12' : n ≤ 12 := by omega
      obtain ⟨R0, HR0⟩ : ∃ u, Hid (pasR s l = u) := ⟨_, rfl⟩
      obtain ⟨L0, HL0⟩ : ∃ u, Hid (pasL s l = u) := ⟨_, rfl⟩
      obtain ⟨E0, HE0⟩ : ∃ u, Hid (pasE s l = u) := ⟨_, rfl⟩
      obtain ⟨n0, Hn0⟩ : ∃ u, Hid (L0.length = u) := ⟨_, rfl⟩
      have hn0 : n0 ≤ 67108864 := by rw [← Hn0.out, ← HL0.out]; exact pas_len _ _
      have hee : (E0 != E0) = false := by simp
      have HRM : Hid (∀ W, Below w.heap.size w W → (∀ b ∈ l, b.n ≤ 4000000000) → Calls Try.prog 32 #[.agg #[.int .i64 s.r.x0, .int .i64 s.r.y0, .int .i64 s.r.x1, .int .i64 s.r.y1, .slice s.A s.n s.c], .slice A n c] W (RetBE R0 L0 E0 W)) := fun W h hbig => by
        have := rbpaste_any s A n c l W (HS.out.below h) (by omega) (HR.out.below h) Hn.out (by omega) (fun b hb => (HO.out b hb).below h) hbig
        rw [HR0.out, HL0.out, HE0.out] at this
        exact this
      go_enter Try.func6, Try.ntmps6
      go_wp2_with fail
      refine (small_any s.r s.A s.n s.c _ true HSs).mono ?_
      rintro e y1 ⟨rfl, hb1⟩
      have kS1 : Bk y1 (w.heap.size) 28 #[.int .i64 s.r.x0, .int .i64 s.r.y0, .int .i64 s.r.x1, .int .i64 s.r.y1, .slice s.A s.n s.c] := (by repeat (first | (with_reducible assumption) | ((with_reducible refine Bk.new _ _ _ ?_); first | (with_reducible rfl) | (simp; done)) | (with_reducible refine Bk.alloc ?_ _) | (with_reducible refine Bk.drew ?_) | (with_reducible refine Bk.drewN ?_ _) | ((with_reducible refine Bk.far ?_ ?_ _); rotate_left; focus (first | (simp; done) | (simp; omega))) | (with_reducible refine Bk.below ?_ (by with_reducible assumption))))
      have hB1 : Below w.heap.size w y1 := (by repeat (first | (with_reducible exact Below.refl _ _) | (with_reducible refine balloc ?_ _) | (with_reducible refine Below.drew ?_) | (with_reducible refine bdrewN ?_ _) | ((with_reducible refine bset ?_ ?_ _); rotate_left; focus (first | (with_reducible exact Nat.le_refl _) | (simp; done) | (simp; omega) | omega)) | (with_reducible refine bstep (by with_reducible assumption) ?_)))
      obtain ⟨kcS, kfS, kaS, kgS, klS⟩ := kS1.rules
      go_wp2_with fail
      refine (clone_any s _ (HS.out.below hB1) (by omega)).mono ?_
      rintro e y2 ⟨vx, rfl, hox, hb2⟩
      obtain ⟨Ax, cx, hvx, _, _⟩ := hox.form encP_len
      rw [HS.out.ln] at hvx
      subst hvx
      obtain ⟨W0, HW0⟩ : ∃ W : World, Hid (W = y2.alloc (.cells #[.int .i64 s.r.x0, .int .i64 s.r.y0, .int .i64 s.r.x1, .int .i64 s.r.y1, .slice Ax s.n cx] 28)) := ⟨_, rfl⟩
      have kS0 : Bk W0 (w.heap.size) 28 #[.int .i64 s.r.x0, .int .i64 s.r.y0, .int .i64 s.r.x1, .int .i64 s.r.y1, .slice s.A s.n s.c] := by rw [HW0.out]; exact (kS1.below hb2).alloc _
      have kX0 : Bk W0 (y2.heap.size) 28 #[.int .i64 s.r.x0, .int .i64 s.r.y0, .int .i64 s.r.x1, .int .i64 s.r.y1, .slice Ax s.n cx] := by rw [HW0.out]; exact Bk.new _ _ _ rfl
      have oX0 : OwnL encP 25 4 W0 w.heap.size (.slice Ax s.n cx) s.l := by rw [HW0.out]; exact (hox.alloc _).mono hB1.size
      have hB0 : Below w.heap.size w W0 := by rw [HW0.out]; exact balloc (bstep hb2 hB1) _
      have HR1 : Hid (RdL encBm 5 W0 A l) := HR.out.below hB0
      have HO1 : Hid (∀ b ∈ l, b.ok W0) := fun b hb => (HO.out b hb).below hB0
      have HRM0 : Hid (∀ W, Below W0.heap.size W0 W → (∀ b ∈ l, b.n ≤ 4000000000) → Calls Try.prog 32 #[.agg #[.int .i64 s.r.x0, .int .i64 s.r.y0, .int .i64 s.r.x1, .int .i64 s.r.y1, .slice s.A s.n s.c], .slice A n c] W (RetBE R0 L0 E0 W)) := fun W h hbig => HRM.out W (bstep h hB0) hbig
      clear HR HO HRM
      have HR := HR1
      have HO := HO1
      have HRM := HRM0
      clear HR1 HO1 HRM0 hox hb1 hb2 hB1 kS1 kcS kfS kaS kgS klS
      go_wp2_with fail
      rw [← HW0.out]
      go_loopw [6, 26] (fun s i wr => ∃ (k : Nat) (v : Value) (cl : List Bm), v = s ∧ k ≤ n ∧ i = .int .i64 k ∧ OwnL encBm 28 5 wr W0.heap.size v cl ∧ cl.length = k ∧ CpsB wr W0.heap.size cl (l.take k) ∧ Below W0.heap.size W0 wr) (fun _ i _ => n - (intOf i).toNat)
      case atStart => exact ⟨0, _, [], rfl, Nat.zero_le _, rfl, OwnL.nil _ _, rfl, ⟨rfl, fun b hb => by simp at hb⟩, Below.refl _ _⟩
      case round =>
        obtain ⟨k, v, cl, rfl, hk, rfl, hov, hcl, hcp, hbw⟩ := hrel
        by_cases hlt : k < n
        · have hkl : k < l.length := by have := Hn.out; omega
          obtain ⟨gb, ob, hA, hg, d0, d1, d2, d3, d4⟩ := rdb (HR.out.below hbw) hkl
          obtain rfl : A = some ⟨gb, ob, none⟩ := hA
          obtain ⟨b, Hb⟩ : ∃ b, Hid (l[k] = b) := ⟨l[k], rfl⟩
          rw [Hb.out] at d0 d1 d2 d3 d4
          have hmem : b ∈ l := by rw [← Hb.out]; exact List.getElem_mem hkl
          have HBO : Hid (b.ok W0) := HO.out b hmem
          have i0 : (0 : Int) ≤ (k : Int) := by omega
          have i1 : (k : Int) < (n : Int) := by omega
          cases hs : decide (b.n ≤ 2000) with
          | false =>
            have HSb := Lib.hid hs
            clear hs hcp hov
            go_wp2_with fail
            refine (small_any b.r b.A b.n b.c _ false HSb).mono ?_
            rintro e w1 ⟨rfl, hb1⟩
            clear d0 d1 d2 d3 d4
            go_wp2_with fail
            refine (ex_any _).mono ?_
            rintro e w2 ⟨rfl, hb2⟩
            have hBE : Below W0.heap.size W0 w2 := bstep hb2 (bstep hb1 hbw)
            go_wp2
            go_ret
            exact ⟨rfl, bstep hBE hB0⟩
          | true =>
            have HSb := Lib.hid hs
            have hbn := of_decide_eq_true hs
            have HOV := Lib.hid hov
            have HCP := Lib.hid hcp
            clear hs hov hcp
            go_wp2_with fail
            refine (small_any b.r b.A b.n b.c _ true HSb).mono ?_
            rintro e w1 ⟨rfl, hb1⟩
            have hB1 : Below W0.heap.size W0 w1 := bstep hb1 hbw
            obtain ⟨gb', ob', hA', hg', e0, e1, e2, e3, e4⟩ := rdb (HR.out.below hB1) hkl
            obtain ⟨rfl, rfl⟩ : gb = gb' ∧ ob = ob' := by injection hA' with h; injection h with h1 h2; exact ⟨h1, h2⟩
            rw [Hb.out] at e0 e1 e2 e3 e4
            clear d0 d1 d2 d3 d4 hA'
            go_wp2_with fail
            refine (clone_any b _ (HBO.out.below (by repeat (first | (with_reducible exact Below.refl _ _) | (with_reducible refine balloc ?_ _) | (with_reducible refine Below.drew ?_) | (with_reducible refine bdrewN ?_ _) | ((with_reducible refine bset ?_ ?_ _); rotate_left; focus (first | (with_reducible exact Nat.le_refl _) | (simp; done) | (simp; omega) | omega)) | (with_reducible refine bstep (by with_reducible assumption) ?_)))) (by omega)).mono ?_
            rintro e w2 ⟨v2, rfl, ho2, hb2⟩
            clear e0 e1 e2 e3 e4
            have hB2 : Below W0.heap.size W0 w2 := bstep hb2 hB1
            have hsz := hB1.size
            obtain ⟨A2, c2, hv2, hr2, hle2, hmx2⟩ := ho2.form2 encP_len
            rw [HBO.out.ln] at hv2 hle2
            subst hv2
            clear hr2 hle2 hmx2
            have hw12 : Below wr.heap.size wr w2 := bstep hb2 hb1
            have oV0 := HOV.out.below hw12
            have cp0 : CpsB w2 W0.heap.size cl (l.take k) := HCP.out.below hw12
            have cp1 : CpsB w2 W0.heap.size (cl ++ [⟨b.r, A2, b.n, c2, b.l⟩]) (l.take k ++ [b]) := cp0.snoc rfl (ho2.mono hsz) hbn HBO.out.byte
            have htk : l.take k ++ [b] = l.take (k + 1) := by rw [take_one hkl, Hb.out]
            rw [htk] at cp1
            have oV1 := oV0.alloc (.cells #[.int .i64 b.r.x0, .int .i64 b.r.y0, .int .i64 b.r.x1, .int .i64 b.r.y1, .slice A2 b.n c2] 28)
            have cp2 := cp1.below (show Below w2.heap.size w2 (w2.alloc (.cells #[.int .i64 b.r.x0, .int .i64 b.r.y0, .int .i64 b.r.x1, .int .i64 b.r.y1, .slice A2 b.n c2] 28)) from balloc (Below.refl _ _) _)
            have hBA : Below W0.heap.size W0 (w2.alloc (.cells #[.int .i64 b.r.x0, .int .i64 b.r.y0, .int .i64 b.r.x1, .int .i64 b.r.y1, .slice A2 b.n c2] 28)) := balloc hB2 _
            have hszA := hBA.size
            have HHA := Lib.hid hbw
            have hlen : cl.length ≤ 4294967296 := by rw [hcl]; omega
            clear ho2 oV0 cp0 cp1
            go_wp2_with (at_builtin; refine wpList_append_one encBm_len encBm_one 54 Try.infoBm rfl (by decide) (by decide) Try.underlying54 rfl _ _ rfl (W0.heap.size) v cl rfl oV1 w2.heap.size ⟨b.r, A2, b.n, c2, b.l⟩ rfl (Bk.new _ _ _ rfl) rfl hlen hszA ?_; intro v5 w5 ho5 hg5 hv5x; obtain ⟨g5, c5, hv5, _⟩ := hv5x; rw [hcl] at hv5; subst hv5)
            have hB5 := below_grown oV1 hg5 hBA (Nat.le_refl _)
            have cp5 := cp2.grown oV1 hg5
            clear oV1 cp2 HOV HCP
            go_roundw
            case rel => exact ⟨k + 1, _, cl ++ [⟨b.r, A2, b.n, c2, b.l⟩], rfl, by omega, by go_num, ho5, by simp [hcl], cp5, hB5⟩
            case measure => simp [intOf]; omega
        · obtain rfl : k = n := by omega
          have htl : l.take k = l := List.take_of_length_le (by have := Hn.out; omega)
          rw [htl] at hcp
          obtain ⟨A', c', hv', hr', hle', hmx'⟩ := hov.form2 encBm_len
          rw [hcl] at hv' hle'
          subst hv'
          have HRC := Lib.hid hr'
          have HCP := Lib.hid hcp
          have HHA := Lib.hid hbw
          have hX1 := kX0.below hbw
          have oX1 := oX0.below hbw
          obtain ⟨AX', cX', hvX, hrX, hleX, hmxX⟩ := oX1.form2 encP_len
          rw [HS.out.ln] at hvX hleX
          have hAX : Ax = AX' ∧ cx = cX' := by injection hvX with h1 h2 h3; exact ⟨h1, h3⟩
          obtain ⟨rfl, rfl⟩ := hAX
          have hxok : Bm.ok ⟨s.r, Ax, s.n, cx, s.l⟩ wr := ⟨hrX, HS.out.ln, HS.out.byte, hleX, hmxX⟩
          have hm0 := bpaste_any ⟨s.r, Ax, s.n, cx, s.l⟩ A' k c' cl wr hxok (by show s.n ≤ _; omega) hr' hcl (by omega) hcp.ok (fun b hb => by have := (hcp.2 b hb).2.1; omega)
          obtain ⟨g1, g2, g3⟩ := pas_era (x := ⟨s.r, Ax, s.n, cx, s.l⟩) (s := s) rfl rfl hcp.1
          rw [g1, g2, g3, HR0.out, HL0.out, HE0.out] at hm0
          clear hvX hrX hleX hmxX hxok oX1
          have HM := Lib.hid hm0
          have hsm : ∀ b ∈ l, b.n ≤ 4000000000 := fun b hb => by
            have h1 : eraB b ∈ cl.map eraB := by rw [hcp.1]; exact List.mem_map_of_mem hb
            obtain ⟨d, hd, he⟩ := List.mem_map.1 h1
            have h2 := (eraB_eq he).2
            have h3 := (hcp.ok d hd).ln
            have h4 := (HO.out b hb).ln
            have h5 := (hcp.2 d hd).2.1
            rw [h2] at h3; omega
          have HSM := Lib.hid hsm
          clear hm0 g1 g2 g3 hr' hcp hov htl hsm
          obtain ⟨kcX, kfX, kaX, kgX, klX⟩ := hX1.rules
          go_wp2_with fail
          refine (HM.out).mono ?_
          rintro e w1 ⟨v1, rfl, ho1, hb1⟩
          obtain ⟨A1, c1, hv1, hr1, _⟩ := ho1.form encP_len
          rw [Hn0.out] at hv1
          subst hv1
          have HR1 := Lib.hid hr1
          have HO1 := Lib.hid ho1
          clear hr1 ho1
          have hB1 : Below W0.heap.size W0 w1 := bstep hb1 hbw
          clear kcX kfX kaX kgX
          have hS1 := kS0.below hB1
          obtain ⟨kcS, kfS, kaS, kgS, klS⟩ := hS1.rules
          go_wp2_with fail
          refine (HRM.out _ (balloc hB1 _) HSM.out).mono ?_
          rintro e w2 ⟨v2, rfl, ho2, hb2⟩
          obtain ⟨A2, c2, hv2, hr2, _⟩ := ho2.form encP_len
          rw [Hn0.out] at hv2
          subst hv2
          have HR2 := Lib.hid hr2
          clear hr2 ho2 kcS kfS kaS kgS
          
          have kM2 : Bk w2 (w1.heap.size) 28 #[.int .i64 R0.x0, .int .i64 R0.y0, .int .i64 R0.x1, .int .i64 R0.y1, .slice A1 n0 c1] := (by repeat (first | (with_reducible assumption) | ((with_reducible refine Bk.new _ _ _ ?_); first | (with_reducible rfl) | (simp; done)) | (with_reducible refine Bk.alloc ?_ _) | (with_reducible refine Bk.drew ?_) | (with_reducible refine Bk.drewN ?_ _) | ((with_reducible refine Bk.far ?_ ?_ _); rotate_left; focus (first | (simp; done) | (simp; omega))) | (with_reducible refine Bk.below ?_ (by with_reducible assumption)))); obtain ⟨kcM2, kfM2, kaM2, kgM2, klM2⟩ := kM2.rules
          go_wp2_with fail
          refine (requal_any R0 R0 A1 A2 n0 n0 c1 c2 L0 L0 _ (HR1.out.below (by repeat (first | (with_reducible exact Below.refl _ _) | (with_reducible refine balloc ?_ _) | (with_reducible refine Below.drew ?_) | (with_reducible refine bdrewN ?_ _) | ((with_reducible refine bset ?_ ?_ _); rotate_left; focus (first | (with_reducible exact Nat.le_refl _) | (simp; done) | (simp; omega) | omega)) | (with_reducible refine bstep (by with_reducible assumption) ?_)))) (HR2.out.below (by repeat (first | (with_reducible exact Below.refl _ _) | (with_reducible refine balloc ?_ _) | (with_reducible refine Below.drew ?_) | (with_reducible refine bdrewN ?_ _) | ((with_reducible refine bset ?_ ?_ _); rotate_left; focus (first | (with_reducible exact Nat.le_refl _) | (simp; done) | (simp; omega) | omega)) | (with_reducible refine bstep (by with_reducible assumption) ?_)))) Hn0.out Hn0.out (by omega) (by omega) true ⟨fun _ => ⟨rfl, rfl⟩, fun _ => rfl⟩).mono ?_
          rintro e w3 ⟨rfl, hb3⟩
          clear kcM2 kfM2 kaM2 kgM2
          have kM3 : Bk w3 (w1.heap.size) 28 #[.int .i64 R0.x0, .int .i64 R0.y0, .int .i64 R0.x1, .int .i64 R0.y1, .slice A1 n0 c1] := (by repeat (first | (with_reducible assumption) | ((with_reducible refine Bk.new _ _ _ ?_); first | (with_reducible rfl) | (simp; done)) | (with_reducible refine Bk.alloc ?_ _) | (with_reducible refine Bk.drew ?_) | (with_reducible refine Bk.drewN ?_ _) | ((with_reducible refine Bk.far ?_ ?_ _); rotate_left; focus (first | (simp; done) | (simp; omega))) | (with_reducible refine Bk.below ?_ (by with_reducible assumption)))); obtain ⟨kcM3, kfM3, kaM3, kgM3, klM3⟩ := kM3.rules
          have hW3 : Below wr.heap.size wr w3 := bstep hb3 (balloc (bstep hb2 (balloc hb1 _)) _)
          have oM := HO1.out.below (show Below w1.heap.size w1 w3 from bstep hb3 (balloc (bstep hb2 (balloc (Below.refl _ _) _)) _))
          go_wp2_with fail
          refine (overwrite_any R0 _ L0 n0 _ _ oM Hn0 (by omega) A1 c1 rfl).mono ?_
          rintro e w4 ⟨rfl, hg4⟩
          have hW4 : Below wr.heap.size wr w4 := below_grown oM hg4 hW3 (Nat.le_refl _)
          clear kcM3 kfM3 kaM3 kgM3 oM
          have hB4 : Below W0.heap.size W0 w4 := bstep hW4 hbw
          have HC4 := Lib.hid (HCP.out.below hW4)
          have hrc4 := HRC.out.below hW4
          have HRC4 := Lib.hid hrc4
          clear hrc4 hW3
          go_wp2_with fail
          go_loopw [70] (fun i wr => ∃ (j : Nat), j ≤ k ∧ i = .int .i64 j ∧ Below w4.heap.size w4 wr) (fun i _ => k - (intOf i).toNat)
          case atStart => exact ⟨0, Nat.zero_le _, rfl, Below.refl _ _⟩
          case round =>
            obtain ⟨j, hj, rfl, hbq⟩ := hrel
            by_cases hlt : j < k
            · have hjl : j < l.length := by have := Hn.out; omega
              have hjc : j < cl.length := by omega
              have hBq : Below W0.heap.size W0 wr := bstep hbq hB4
              obtain ⟨b, Hb⟩ : ∃ b, Hid (l[j] = b) := ⟨l[j], rfl⟩
              obtain ⟨d, Hd⟩ : ∃ d, Hid (cl[j] = d) := ⟨cl[j], rfl⟩
              have hmb : b ∈ l := by rw [← Hb.out]; exact List.getElem_mem hjl
              have hmd : d ∈ cl := by rw [← Hd.out]; exact List.getElem_mem hjc
              have HBO : Hid (b.ok W0) := HO.out b hmb
              have HDO : Hid (d.ok w4) := HC4.out.ok d hmd
              have hdn : d.n ≤ 2000 := (HC4.out.2 d hmd).2.1
              have hera : eraB d = eraB b := by
                have h := HC4.out.1
                have h2 : (cl.map eraB)[j]? = (l.map eraB)[j]? := by rw [h]
                rw [List.getElem?_map, List.getElem?_map, List.getElem?_eq_getElem hjc, List.getElem?_eq_getElem hjl, Hd.out, Hb.out] at h2
                simpa using h2
              have hrl := eraB_eq hera
              have HRL : Hid (d.r = b.r ∧ d.l = b.l) := hrl
              have hbn : b.n ≤ 2000 := by rw [← HBO.out.ln, ← hrl.2, HDO.out.ln]; exact hdn
              have i0 : (0 : Int) ≤ (j : Int) := by omega
              have i1 : (j : Int) < (k : Int) := by omega
              have hA0 := rdb (HRC4.out.below hbq) hjc
              have hA1 := rdb (HR.out.below hBq) hjl
              rw [Hb.out] at hA1
              rw [Hd.out] at hA0
              obtain ⟨ga, oa, hAA, _⟩ := hA0
              obtain ⟨gb, ob, hBB, _⟩ := hA1
              have HXA : Hid (∀ W, Below wr.heap.size wr W → W.cell? ⟨ga, oa + j * 5, none⟩ = some (.int .i64 d.r.x0) ∧ W.cell? ⟨ga, oa + j * 5 + 1, none⟩ = some (.int .i64 d.r.y0) ∧ W.cell? ⟨ga, oa + j * 5 + 2, none⟩ = some (.int .i64 d.r.x1) ∧ W.cell? ⟨ga, oa + j * 5 + 3, none⟩ = some (.int .i64 d.r.y1) ∧ W.cell? ⟨ga, oa + j * 5 + 4, none⟩ = some (.slice d.A d.n d.c)) := fun W h => by
                obtain ⟨g', o', hA', hg', r⟩ := rdb ((HRC4.out.below hbq).below h) hjc
                obtain ⟨rfl, rfl⟩ : ga = g' ∧ oa = o' := by rw [hAA] at hA'; injection hA' with h; injection h with h1 h2; exact ⟨h1, h2⟩
                rw [Hd.out] at r; exact r
              have HXB : Hid (∀ W, Below wr.heap.size wr W → W.cell? ⟨gb, ob + j * 5, none⟩ = some (.int .i64 b.r.x0) ∧ W.cell? ⟨gb, ob + j * 5 + 1, none⟩ = some (.int .i64 b.r.y0) ∧ W.cell? ⟨gb, ob + j * 5 + 2, none⟩ = some (.int .i64 b.r.x1) ∧ W.cell? ⟨gb, ob + j * 5 + 3, none⟩ = some (.int .i64 b.r.y1) ∧ W.cell? ⟨gb, ob + j * 5 + 4, none⟩ = some (.slice b.A b.n b.c)) := fun W h => by
                obtain ⟨g', o', hA', hg', r⟩ := rdb ((HR.out.below hBq).below h) hjl
                obtain ⟨rfl, rfl⟩ : gb = g' ∧ ob = o' := by rw [hBB] at hA'; injection hA' with h; injection h with h1 h2; exact ⟨h1, h2⟩
                rw [Hb.out] at r; exact r
              subst hAA hBB
              clear hera hrl hmb hmd
              go_wp2_with fail
              refine wp_region_gob 10 [(0, true), (1, true), (2, true), (3, true), (4, true), (5, true), (6, true), (7, true), (8, false), (9, true)] (by kernel_rfl) (by kernel_rfl) (fun c a d v w h => by cases d <;> exact h) ?_
              repeat (first | (refine wpGo_pure (v := ?_) rfl rfl (fun w' hS => ?_) ?_; rotate_left; (· obtain ⟨d0, d1, d2, d3, d4⟩ := HXA.out w' hS; obtain ⟨f0, f1, f2, f3, f4⟩ := HXB.out w' hS; go_simp; exact rfl); (try simp only [Act.put, List.setIfInBounds_toArray, List.set_cons_zero, List.set_cons_succ])) | ((refine wpGo_skip rfl rfl ?_); (try simp only [Act.put, List.setIfInBounds_toArray, List.set_cons_zero, List.set_cons_succ])))
              refine wpGo_eff rfl (fun K hK => ?_)
              go_simp
              refine (requal_any d.r b.r d.A b.A d.n b.n d.c b.c d.l b.l _ (HDO.out.rd.below (bstep (show Below wr.heap.size wr _ from (by repeat (first | (with_reducible exact Below.refl _ _) | (with_reducible refine balloc ?_ _) | (with_reducible refine Below.drew ?_) | (with_reducible refine bdrewN ?_ _) | ((with_reducible refine bset ?_ ?_ _); rotate_left; focus (first | (with_reducible exact Nat.le_refl _) | (simp; done) | (simp; omega) | omega)) | (with_reducible refine bstep (by with_reducible assumption) ?_)))) hbq)) (HBO.out.rd.below (bstep (show Below wr.heap.size wr _ from (by repeat (first | (with_reducible exact Below.refl _ _) | (with_reducible refine balloc ?_ _) | (with_reducible refine Below.drew ?_) | (with_reducible refine bdrewN ?_ _) | ((with_reducible refine bset ?_ ?_ _); rotate_left; focus (first | (with_reducible exact Nat.le_refl _) | (simp; done) | (simp; omega) | omega)) | (with_reducible refine bstep (by with_reducible assumption) ?_)))) hBq)) HDO.out.ln HBO.out.ln (by omega) (by omega) true ⟨fun _ => HRL.out, fun _ => rfl⟩).mono ?_
              rintro e w21 ⟨rfl, hb21⟩
              refine hK.out _ _ (by repeat (first | (with_reducible exact Below.refl _ _) | (with_reducible refine balloc ?_ _) | (with_reducible refine Below.drew ?_) | (with_reducible refine bdrewN ?_ _) | ((with_reducible refine bset ?_ ?_ _); rotate_left; focus (first | (with_reducible exact Nat.le_refl _) | (simp; done) | (simp; omega) | omega)) | (with_reducible refine bstep (by with_reducible assumption) ?_))) (fun hS21 => ?_)
              clear hK K
              repeat (first | (refine wpGo_pure (v := ?_) rfl rfl (fun w' hS => ?_) ?_; rotate_left; (· obtain ⟨d0, d1, d2, d3, d4⟩ := HXA.out w' hS; obtain ⟨f0, f1, f2, f3, f4⟩ := HXB.out w' hS; go_simp; exact rfl); (try simp only [Act.put, List.setIfInBounds_toArray, List.set_cons_zero, List.set_cons_succ])) | ((refine wpGo_skip rfl rfl ?_); (try simp only [Act.put, List.setIfInBounds_toArray, List.set_cons_zero, List.set_cons_succ])))
              refine wpGo_nil ?_
              simp only [List.drop_succ_cons, List.drop_zero]
              have hBE : Below w4.heap.size w4 w21 := bstep (show Below wr.heap.size wr w21 from (by repeat (first | (with_reducible exact Below.refl _ _) | (with_reducible refine balloc ?_ _) | (with_reducible refine Below.drew ?_) | (with_reducible refine bdrewN ?_ _) | ((with_reducible refine bset ?_ ?_ _); rotate_left; focus (first | (with_reducible exact Nat.le_refl _) | (simp; done) | (simp; omega) | omega)) | (with_reducible refine bstep (by with_reducible assumption) ?_)))) hbq
              go_wp2
              go_roundw
              case rel => exact ⟨j + 1, by omega, by go_num, hBE⟩
              case measure => simp [intOf]; omega
            · obtain rfl : j = k := by omega
              have hBq : Below W0.heap.size W0 wr := bstep hbq hB4
              have zS := kS0.below hBq
              obtain ⟨kcS, kfS, kaS, kgS, klS⟩ := zS.rules
              have zX := kX0.below hBq
              obtain ⟨kcX, kfX, kaX, kgX, klX⟩ := zX.rules
              obtain ⟨AX', cX', hvX, hrX, _⟩ := (oX0.below hBq).form encP_len
              have hAX : Ax = AX' ∧ cx = cX' := by injection hvX with h1 h2 h3; exact ⟨h1, h3⟩
              obtain ⟨rfl, rfl⟩ := hAX
              have HRX := Lib.hid hrX
              clear hvX hrX
              go_wp2_with fail
              refine (requal_any s.r s.r Ax s.A s.n s.n cx s.c s.l s.l _ HRX.out (HS.out.rd.below (bstep hBq hB0)) HS.out.ln HS.out.ln (by omega) (by omega) true ⟨fun _ => ⟨rfl, rfl⟩, fun _ => rfl⟩).mono ?_
              rintro e wy ⟨rfl, hby⟩
              clear kcS kfS kaS kgS kcX kfX kaX kgX
              go_wp2_with fail
              refine (ex_any _).mono ?_
              rintro e wz ⟨rfl, hbz⟩
              have hBE : Below W0.heap.size W0 wz := bstep hbz (bstep hby hBq)
              go_wp2
              go_ret
              exact ⟨rfl, bstep hBE hB0⟩

set_option maxRecDepth 100000 in
theorem lifted_BitmapPaste (os : Os) (started : os.Started) (H : Type) (enc : TypeId × Value → H) :
    ReturnsInHanded {} Try.checked os 6 .any (Rows.bitmapPasteSpec.pre6 enc Try.prog Try.f6 Rows.bitmapPasteRow.domain false) (Rows.bitmapPasteSpec.post enc Try.prog Try.f6 false true false false) := by
  refine returnsInHanded_of_change (C := Try.checked) Try.own started (by kernel_rfl) Try.func6
    (ChangeSpec.witness6 (enc := enc) (C := Try.checked) false ⟨#[], #[.agg #[.int .i64 0, .int .i64 0, .int .i64 0, .int .i64 0, .slice none 0 0], .slice none 0 0], []⟩ 8 (by kernel_rfl) (by kernel_rfl) (by kernel_rfl) (by kernel_rfl)) ?_
  intro W base args ds gs before hval0 hW hcnd _
  have hval : ∀ (j : Nat) t v, Try.f6.params[j]? = some t → args[j]? = some v → Value.okWide Try.prog W .any base t v := hval0
  have hW' := hW
  obtain ⟨p, q, hA0, hV, rfl, hfz, hnd⟩ := hW
  have hA : DataW.TrodAll enc Try.prog W 0 (fun _ => true) true Try.f6.params.toList args.toList ds p := hA0
  rw [Try.params6] at hA hval
  obtain ⟨v0, vs0, d0, ds0, p0, q0, hargs, rfl, rfl, h0, r0⟩ := trodAll_cons hA
  obtain ⟨v1, vs1, d1, ds1, p1, q1, rfl, rfl, rfl, h1, r1⟩ := trodAll_cons r0
  obtain ⟨rfl, rfl, rfl⟩ := trodAll_nil r1
  obtain rfl : args = #[v0, v1] := by cases args; simp_all
  obtain ⟨b0, rfl, ho0⟩ := openBm (hval 0 28 v0 rfl rfl) h0
  obtain ⟨A1, n1, c1, l1, rfl, hl1, hr1, hq1, hc1, hm1⟩ := openBms (hval 1 54 v1 rfl rfl) h1
  refine (walk_BitmapPaste b0 A1 n1 c1 l1 W ho0 hr1 hl1 hq1 hc1 hm1).mono fun e W' ⟨he, hb⟩ => ?_
  subst he
  exact ⟨_, rfl, law_post (tb := 4) Try.laidOut (by kernel_rfl) hW' rfl rfl Try.underlying4 rfl rfl rfl hb⟩

theorem BitmapPaste_holds : Rows.BitmapPasteSaid :=
  OpenClaim.holds_of_wide 6 Try.f6 rfl rfl rfl rfl rfl rfl rfl ⟨rfl, rfl, rfl, rfl, rfl⟩ rfl rfl rfl rfl rfl (by kernel_rfl) Try.func6 (by kernel_rfl)
    (of_decide_eq_true (by kernel_rfl)) (by unfold Func.isWrapper; first | (rw [if_pos (by decide +kernel)]; kernel_rfl) | (rw [if_neg (by decide +kernel)]; exact ⟨rfl, rfl⟩))
    (fun os started H enc _ => lifted_BitmapPaste os started H enc)
#print axioms BitmapPaste_holds
end Go.Proofs.Ytnefnnhnjmmebaa
