/- MaskMultiply: for every slice of masks the law grisaillelaw21.MaskMultiply returns true. No conditions. -/
import Derived.Test.YtndablijjkchjaaMk6b
import Derived.Test.YtndablijjkchjaaEx21
import Derived.Test.YtndablijjkchjaaOpenM
import Derived.Test.YtndablijjkchjaaMkClone
import Derived.Test.YtndablijjkchjaaList4
import Derived.Test.YtndablijjkchjaaFrame
namespace Go.Proofs.Ytndablijjkchjaa
open Go.ChangeShapes Go.WideShapes Go.ChangeAt Go.RowKit
set_option linter.unusedSimpArgs false
set_option linter.unusedVariables false
theorem mul_len (l : List Mk) : (mulL l).length ≤ 67108864 := by
  unfold mulL
  cases h : l.all vMk with
  | false => simp
  | true =>
    rw [if_pos rfl]
    have h3 := pix_len (mulG l) (mulR0 l)
    rw [mulR0_cn h] at h3
    have := (area_bd (mulR0 l)).2
    omega
def eraM (b : Mk) : Mk := ⟨b.r, none, 0, 0, b.l⟩
theorem era_all (l : List Mk) : (l.map eraM).all vMk = l.all vMk := by rw [List.all_map]; rfl
theorem era_R0 (l : List Mk) : mulR0 (l.map eraM) = mulR0 l := by
  cases l with
  | nil => rfl
  | cons a t => show foldR (t.map eraM) a.r = foldR t a.r; unfold foldR; rw [List.foldl_map]; rfl
theorem era_G (l : List Mk) : mulG (l.map eraM) = mulG l := by
  cases l with
  | nil => rfl
  | cons a t => funext x y; show foldV (t.map eraM) _ x y = foldV t _ x y; unfold foldV; rw [List.foldl_map]; rfl
theorem era_R (l : List Mk) : mulR (l.map eraM) = mulR l := by unfold mulR; rw [era_all, era_R0]
theorem era_L (l : List Mk) : mulL (l.map eraM) = mulL l := by unfold mulL; rw [era_all, era_R0, era_G]
theorem era_E (l : List Mk) : mulE (l.map eraM) = mulE l := by unfold mulE; rw [era_all]
theorem encMk_one (b : Mk) : ∀ u ∈ encMk b, u.oneCell' = true := by intro u hu; simp [encMk] at hu; rcases hu with rfl | rfl | rfl | rfl | rfl <;> rfl
theorem Try.infoMk : (Try.prog.info? 29).map (fun i => (i.zero, i.size, i.bytes)) = some (some (.agg #[.int .i64 0, .int .i64 0, .int .i64 0, .int .i64 0, .slice none 0 0]), 5, 56) := by kernel_rfl
/-- Copies of masks: they lie in blocks of the call's own. -/
def Cps (w : World) (base : Nat) (cl l : List Mk) : Prop := cl.map eraM = l.map eraM ∧ ∀ b ∈ cl, OwnL encB 5 1 w base (.slice b.A b.n b.c) b.l ∧ b.n ≤ 3000 ∧ bytesB b.l
theorem Cps.snoc {w : World} {base : Nat} {cl l : List Mk} {b c : Mk} (h : Cps w base cl l) (he : eraM b = eraM c) (ho : OwnL encB 5 1 w base (.slice b.A b.n b.c) b.l) (hn : b.n ≤ 3000) (hb : bytesB b.l) : Cps w base (cl ++ [b]) (l ++ [c]) :=
  ⟨by rw [List.map_append, List.map_append, h.1]; simp [he], fun x hx => by
    rcases List.mem_append.1 hx with h' | h'
    · exact h.2 x h'
    · rw [List.mem_singleton.1 h']; exact ⟨ho, hn, hb⟩⟩
theorem Cps.below {w w' : World} {base : Nat} {cl l : List Mk} (h : Cps w base cl l) (hb : Below w.heap.size w w') : Cps w' base cl l := ⟨h.1, fun b hx => ⟨(h.2 b hx).1.below hb, (h.2 b hx).2⟩⟩
theorem Cps.grown {w w' : World} {base base' : Nat} {cl l cl' : List Mk} {v : Value} (h : Cps w base cl l) (ho : OwnL encMk 29 5 w base' v cl') (hg : w.grownBy w' v.ownBlock) : Cps w' base cl l :=
  ⟨h.1, fun b hx => ⟨(h.2 b hx).1.fr (Fr.grown (Fr.refl base' [29] w) ho hg (by simp)) (by decide), (h.2 b hx).2⟩⟩
theorem Cps.ok {w : World} {base : Nat} {cl l : List Mk} (h : Cps w base cl l) : ∀ b ∈ cl, b.ok w := fun b hx => by
  obtain ⟨ho, hn, hb⟩ := h.2 b hx
  obtain ⟨A, c, hv, hr, hle, hmx⟩ := ho.form2 encB_len
  injection hv with h1 h2 h3
  exact ⟨by rw [h1]; exact hr, h2.symm, hb, by rw [h2, h3]; exact hle, by rw [h3]; exact hmx⟩
theorem era_eq {b c : Mk} (h : eraM b = eraM c) : b.r = c.r ∧ b.l = c.l := by
  unfold eraM at h; injection h with h1 _ _ _ h2; exact ⟨h1, h2⟩
set_option maxRecDepth 100000 in
set_option maxHeartbeats 6400000 in
theorem walk_MaskMultiply (A : Option Addr) (n c : Nat) (l : List Mk) (w : World) (hr : RdL encMk 5 w A l) (hn : l.length = n) (ho : ∀ b ∈ l, b.ok w) (hnc : n ≤ c) (hcm : c ≤ maxLen) :
    Calls Try.prog 3 #[.slice A n c] w fun e w' => e = .returned (.bool true) ∧ Below w.heap.size w w' := by
  have HR := Lib.hid hr
  have Hn := Lib.hid hn
  have HO := Lib.hid ho
  clear hr hn ho
  by_cases h12 : (12 : Int) < (n : Int)
  · skip
    go_enter Try.func3, Try.ntmps3
    go_wp2_with fail
    refine (ex_any _).mono ?_
    rintro e w1 ⟨rfl, hb1⟩
    go_wp2
    go_ret
    exact ⟨rfl, (by repeat (first | (with_reducible exact Below.refl _ _) | (with_reducible refine balloc ?_ _) | (with_reducible refine Below.drew ?_) | (with_reducible refine bdrewN ?_ _) | ((with_reducible refine bset ?_ ?_ _); rotate_left; focus (first | (with_reducible exact Nat.le_refl _) | (simp; done) | (simp; omega) | omega)) | (with_reducible refine bstep (by with_reducible assumption) ?_)))⟩
  · have h12' : n ≤ 12 := by omega
    obtain ⟨R0, HR0⟩ : ∃ u, Hid (mulR l = u) := ⟨_, rfl⟩
    obtain ⟨L0, HL0⟩ : ∃ u, Hid (mulL l = u) := ⟨_, rfl⟩
    obtain ⟨E0, HE0⟩ : ∃ u, Hid (mulE l = u) := ⟨_, rfl⟩
    obtain ⟨n0, Hn0⟩ : ∃ u, Hid (L0.length = u) := ⟨_, rfl⟩
    have hn0 : n0 ≤ 67108864 := by rw [← Hn0.out, ← HL0.out]; exact mul_len _
    have hee : (E0 != E0) = false := by simp
    have HRM : Hid (∀ W, Below w.heap.size w W → (∀ b ∈ l, b.n ≤ 4000000000) → Calls Try.prog 18 #[.slice A n c] W (RetME R0 L0 E0 W)) := fun W h hbig => by
      have := rmmul_any A n c l W (HR.out.below h) Hn.out (by omega) hnc hcm (fun b hb => (HO.out b hb).below h) hbig
      rw [HR0.out, HL0.out, HE0.out] at this
      exact this
    go_enter Try.func3, Try.ntmps3
    go_wp2_with fail
    go_loopw [3, 16] (fun s i wr => ∃ (k : Nat) (v : Value) (cl : List Mk), v = s ∧ k ≤ n ∧ i = .int .i64 k ∧ OwnL encMk 29 5 wr w.heap.size v cl ∧ cl.length = k ∧ Cps wr w.heap.size cl (l.take k) ∧ Below w.heap.size w wr) (fun _ i _ => n - (intOf i).toNat)
    case atStart => exact ⟨0, _, [], rfl, Nat.zero_le _, rfl, OwnL.nil _ _, rfl, ⟨rfl, fun b hb => by simp at hb⟩, Below.refl _ _⟩
    case round =>
      obtain ⟨k, v, cl, rfl, hk, rfl, hov, hcl, hcp, hbw⟩ := hrel
      by_cases hlt : k < n
      · have hkl : k < l.length := by have := Hn.out; omega
        obtain ⟨gb, ob, hA, hg, d0, d1, d2, d3, d4⟩ := rdk (HR.out.below hbw) hkl
        obtain rfl : A = some ⟨gb, ob, none⟩ := hA
        obtain ⟨b, Hb⟩ : ∃ b, Hid (l[k] = b) := ⟨l[k], rfl⟩
        rw [Hb.out] at d0 d1 d2 d3 d4
        have hmem : b ∈ l := by rw [← Hb.out]; exact List.getElem_mem hkl
        have HBO : Hid (b.ok w) := HO.out b hmem
        have i0 : (0 : Int) ≤ (k : Int) := by omega
        have i1 : (k : Int) < (n : Int) := by omega
        cases hs : decide (b.n ≤ 3000) with
        | false =>
          have HSb := Lib.hid hs
          clear hs hcp hov
          go_wp2_with fail
          refine (small_any b.r b.A b.n b.c _ false HSb).mono ?_
          rintro e w1 ⟨rfl, hb1⟩
          clear d0 d1 d2 d3 d4
          go_wp2_with fail
          refine (ex_any _).mono ?_
          rintro e w2 ⟨rfl, hb2⟩
          have hBE : Below w.heap.size w w2 := bstep hb2 (bstep hb1 hbw)
          go_wp2
          go_ret
          exact ⟨rfl, hBE⟩
        | true =>
          have HSb := Lib.hid hs
          have hbn := of_decide_eq_true hs
          have HOV := Lib.hid hov
          have HCP := Lib.hid hcp
          clear hs hov hcp
          go_wp2_with fail
          refine (small_any b.r b.A b.n b.c _ true HSb).mono ?_
          rintro e w1 ⟨rfl, hb1⟩
          have hB1 : Below w.heap.size w w1 := bstep hb1 hbw
          obtain ⟨gb', ob', hA', hg', e0, e1, e2, e3, e4⟩ := rdk (HR.out.below hB1) hkl
          obtain ⟨rfl, rfl⟩ : gb = gb' ∧ ob = ob' := by injection hA' with h; injection h with h1 h2; exact ⟨h1, h2⟩
          rw [Hb.out] at e0 e1 e2 e3 e4
          clear d0 d1 d2 d3 d4 hA'
          go_wp2_with fail
          refine (clone_any b _ (HBO.out.below (by repeat (first | (with_reducible exact Below.refl _ _) | (with_reducible refine balloc ?_ _) | (with_reducible refine Below.drew ?_) | (with_reducible refine bdrewN ?_ _) | ((with_reducible refine bset ?_ ?_ _); rotate_left; focus (first | (with_reducible exact Nat.le_refl _) | (simp; done) | (simp; omega) | omega)) | (with_reducible refine bstep (by with_reducible assumption) ?_)))) (by omega)).mono ?_
          rintro e w2 ⟨v2, rfl, ho2, hb2⟩
          clear e0 e1 e2 e3 e4
          have hB2 : Below w.heap.size w w2 := bstep hb2 hB1
          have hsz := hB1.size
          obtain ⟨A2, c2, hv2, hr2, hle2, hmx2⟩ := ho2.form2 encB_len
          rw [HBO.out.ln] at hv2 hle2
          subst hv2
          clear hr2 hle2 hmx2
          have hw12 : Below wr.heap.size wr w2 := bstep hb2 hb1
          have oV0 := HOV.out.below hw12
          have cp0 : Cps w2 w.heap.size cl (l.take k) := HCP.out.below hw12
          have cp1 : Cps w2 w.heap.size (cl ++ [⟨b.r, A2, b.n, c2, b.l⟩]) (l.take k ++ [b]) := cp0.snoc rfl (ho2.mono hsz) hbn HBO.out.byte
          have htk : l.take k ++ [b] = l.take (k + 1) := by rw [take_one hkl, Hb.out]
          rw [htk] at cp1
          have oV1 := oV0.alloc (.cells #[.int .i64 b.r.x0, .int .i64 b.r.y0, .int .i64 b.r.x1, .int .i64 b.r.y1, .slice A2 b.n c2] 29)
          have cp2 := cp1.below (show Below w2.heap.size w2 (w2.alloc (.cells #[.int .i64 b.r.x0, .int .i64 b.r.y0, .int .i64 b.r.x1, .int .i64 b.r.y1, .slice A2 b.n c2] 29)) from balloc (Below.refl _ _) _)
          have hBA : Below w.heap.size w (w2.alloc (.cells #[.int .i64 b.r.x0, .int .i64 b.r.y0, .int .i64 b.r.x1, .int .i64 b.r.y1, .slice A2 b.n c2] 29)) := balloc hB2 _
          have hszA := hBA.size
          have HHA := Lib.hid hbw
          have hlen : cl.length ≤ 4294967296 := by rw [hcl]; omega
          clear ho2 oV0 cp0 cp1
          go_wp2_with (at_builtin; refine wpList_append_one encMk_len encMk_one 22 Try.infoMk rfl (by decide) (by decide) Try.underlying22 rfl _ _ rfl (w.heap.size) v cl rfl oV1 w2.heap.size ⟨b.r, A2, b.n, c2, b.l⟩ rfl (Bk.new _ _ _ rfl) rfl hlen hszA ?_; intro v5 w5 ho5 hg5 hv5x; obtain ⟨g5, c5, hv5, _⟩ := hv5x; rw [hcl] at hv5; subst hv5)
          have hB5 := below_grown oV1 hg5 hBA (Nat.le_refl _)
          have cp5 := cp2.grown oV1 hg5
          clear oV1 cp2 HOV HCP
          go_roundw
          case rel => exact ⟨k + 1, _, cl ++ [⟨b.r, A2, b.n, c2, b.l⟩], rfl, by omega, by go_num, ho5, by simp [hcl], cp5, hB5⟩
          case measure => simp [intOf]; omega
      · obtain rfl : k = n := by omega
        have htl : l.take k = l := List.take_of_length_le (by have := Hn.out; omega)
        rw [htl] at hcp
        obtain ⟨A', c', hv', hr', hle', hmx'⟩ := hov.form2 encMk_len
        rw [hcl] at hv' hle'
        subst hv'
        have HRC := Lib.hid hr'
        have HCP := Lib.hid hcp
        have HHA := Lib.hid hbw
        have g1 : mulR cl = R0 := by rw [← era_R, hcp.1, era_R]; exact HR0.out
        have g2 : mulL cl = L0 := by rw [← era_L, hcp.1, era_L]; exact HL0.out
        have g3 : mulE cl = E0 := by rw [← era_E, hcp.1, era_E]; exact HE0.out
        have hm0 := mmul_any A' k c' cl wr hr' hcl (by omega) hle' hmx' hcp.ok (fun b hb => by have := (hcp.2 b hb).2.1; omega)
        rw [g1, g2, g3] at hm0
        have HM := Lib.hid hm0
        have hsm : ∀ b ∈ l, b.n ≤ 4000000000 := fun b hb => by
          have h1 : eraM b ∈ cl.map eraM := by rw [hcp.1]; exact List.mem_map_of_mem hb
          obtain ⟨d, hd, he⟩ := List.mem_map.1 h1
          have h2 := (era_eq he).2
          have h3 := (hcp.ok d hd).ln
          have h4 := (HO.out b hb).ln
          have h5 := (hcp.2 d hd).2.1
          rw [h2] at h3; omega
        have HSM := Lib.hid hsm
        clear hm0 g1 g2 g3 hr' hcp hov htl hsm
        go_wp2_with fail
        refine (HM.out).mono ?_
        rintro e w1 ⟨v1, rfl, ho1, hb1⟩
        obtain ⟨A1, c1, hv1, hr1, _⟩ := ho1.form encB_len
        rw [Hn0.out] at hv1
        subst hv1
        have HR1 := Lib.hid hr1
        have HO1 := Lib.hid ho1
        clear hr1 ho1
        have hB1 : Below w.heap.size w w1 := bstep hb1 hbw
        go_wp2_with fail
        refine (HRM.out _ (balloc hB1 _) HSM.out).mono ?_
        rintro e w2 ⟨v2, rfl, ho2, hb2⟩
        obtain ⟨A2, c2, hv2, hr2, _⟩ := ho2.form encB_len
        rw [Hn0.out] at hv2
        subst hv2
        have HR2 := Lib.hid hr2
        clear hr2 ho2
        
        have kM2 : Bk w2 (w1.heap.size) 29 #[.int .i64 R0.x0, .int .i64 R0.y0, .int .i64 R0.x1, .int .i64 R0.y1, .slice A1 n0 c1] := (by repeat (first | (with_reducible assumption) | ((with_reducible refine Bk.new _ _ _ ?_); first | (with_reducible rfl) | (simp; done)) | (with_reducible refine Bk.alloc ?_ _) | (with_reducible refine Bk.drew ?_) | (with_reducible refine Bk.drewN ?_ _) | ((with_reducible refine Bk.far ?_ ?_ _); rotate_left; focus (first | (simp; done) | (simp; omega))) | (with_reducible refine Bk.below ?_ (by with_reducible assumption)))); obtain ⟨kcM2, kfM2, kaM2, kgM2, klM2⟩ := kM2.rules
        go_wp2_with fail
        refine (rmequal_any R0 R0 A1 A2 n0 n0 c1 c2 L0 L0 _ (HR1.out.below (by repeat (first | (with_reducible exact Below.refl _ _) | (with_reducible refine balloc ?_ _) | (with_reducible refine Below.drew ?_) | (with_reducible refine bdrewN ?_ _) | ((with_reducible refine bset ?_ ?_ _); rotate_left; focus (first | (with_reducible exact Nat.le_refl _) | (simp; done) | (simp; omega) | omega)) | (with_reducible refine bstep (by with_reducible assumption) ?_)))) (HR2.out.below (by repeat (first | (with_reducible exact Below.refl _ _) | (with_reducible refine balloc ?_ _) | (with_reducible refine Below.drew ?_) | (with_reducible refine bdrewN ?_ _) | ((with_reducible refine bset ?_ ?_ _); rotate_left; focus (first | (with_reducible exact Nat.le_refl _) | (simp; done) | (simp; omega) | omega)) | (with_reducible refine bstep (by with_reducible assumption) ?_)))) Hn0.out Hn0.out (by omega) (by omega) true ⟨fun _ => ⟨rfl, rfl⟩, fun _ => rfl⟩).mono ?_
        rintro e w3 ⟨rfl, hb3⟩
        clear kcM2 kfM2 kaM2 kgM2
        have kM3 : Bk w3 (w1.heap.size) 29 #[.int .i64 R0.x0, .int .i64 R0.y0, .int .i64 R0.x1, .int .i64 R0.y1, .slice A1 n0 c1] := (by repeat (first | (with_reducible assumption) | ((with_reducible refine Bk.new _ _ _ ?_); first | (with_reducible rfl) | (simp; done)) | (with_reducible refine Bk.alloc ?_ _) | (with_reducible refine Bk.drew ?_) | (with_reducible refine Bk.drewN ?_ _) | ((with_reducible refine Bk.far ?_ ?_ _); rotate_left; focus (first | (simp; done) | (simp; omega))) | (with_reducible refine Bk.below ?_ (by with_reducible assumption)))); obtain ⟨kcM3, kfM3, kaM3, kgM3, klM3⟩ := kM3.rules
        have hW3 : Below wr.heap.size wr w3 := bstep hb3 (balloc (bstep hb2 (balloc hb1 _)) _)
        have oM := HO1.out.below (show Below w1.heap.size w1 w3 from bstep hb3 (balloc (bstep hb2 (balloc (Below.refl _ _) _)) _))
        go_wp2_with fail
        refine (overwrite_any R0 _ L0 n0 _ _ oM Hn0 (by omega) A1 c1 rfl).mono ?_
        rintro e w4 ⟨rfl, hg4⟩
        have hW4 : Below wr.heap.size wr w4 := below_grown oM hg4 hW3 (Nat.le_refl _)
        clear kcM3 kfM3 kaM3 kgM3 oM
        have hB4 : Below w.heap.size w w4 := bstep hW4 hbw
        have HC4 := Lib.hid (HCP.out.below hW4)
        have hrc4 := HRC.out.below hW4
        have HRC4 := Lib.hid hrc4
        clear hrc4 hW3
        go_wp2_with fail
        go_loopw [58] (fun i wr => ∃ (j : Nat), j ≤ k ∧ i = .int .i64 j ∧ Below w4.heap.size w4 wr) (fun i _ => k - (intOf i).toNat)
        case atStart => exact ⟨0, Nat.zero_le _, rfl, Below.refl _ _⟩
        case round =>
          obtain ⟨j, hj, rfl, hbq⟩ := hrel
          by_cases hlt : j < k
          · have hjl : j < l.length := by have := Hn.out; omega
            have hjc : j < cl.length := by omega
            have hBq : Below w.heap.size w wr := bstep hbq hB4
            obtain ⟨b, Hb⟩ : ∃ b, Hid (l[j] = b) := ⟨l[j], rfl⟩
            obtain ⟨d, Hd⟩ : ∃ d, Hid (cl[j] = d) := ⟨cl[j], rfl⟩
            have hmb : b ∈ l := by rw [← Hb.out]; exact List.getElem_mem hjl
            have hmd : d ∈ cl := by rw [← Hd.out]; exact List.getElem_mem hjc
            have HBO : Hid (b.ok w) := HO.out b hmb
            have HDO : Hid (d.ok w4) := HC4.out.ok d hmd
            have hdn : d.n ≤ 3000 := (HC4.out.2 d hmd).2.1
            have hera : eraM d = eraM b := by
              have h := HC4.out.1
              have h2 : (cl.map eraM)[j]? = (l.map eraM)[j]? := by rw [h]
              rw [List.getElem?_map, List.getElem?_map, List.getElem?_eq_getElem hjc, List.getElem?_eq_getElem hjl, Hd.out, Hb.out] at h2
              simpa using h2
            have hrl := era_eq hera
            have HRL : Hid (d.r = b.r ∧ d.l = b.l) := hrl
            have hbn : b.n ≤ 3000 := by rw [← HBO.out.ln, ← hrl.2, HDO.out.ln]; exact hdn
            have i0 : (0 : Int) ≤ (j : Int) := by omega
            have i1 : (j : Int) < (k : Int) := by omega
            have hA0 := rdk (HRC4.out.below hbq) hjc
            have hA1 := rdk (HR.out.below hBq) hjl
            rw [Hb.out] at hA1
            rw [Hd.out] at hA0
            obtain ⟨ga, oa, hAA, _⟩ := hA0
            obtain ⟨gb, ob, hBB, _⟩ := hA1
            have HXA : Hid (∀ W, Below wr.heap.size wr W → W.cell? ⟨ga, oa + j * 5, none⟩ = some (.int .i64 d.r.x0) ∧ W.cell? ⟨ga, oa + j * 5 + 1, none⟩ = some (.int .i64 d.r.y0) ∧ W.cell? ⟨ga, oa + j * 5 + 2, none⟩ = some (.int .i64 d.r.x1) ∧ W.cell? ⟨ga, oa + j * 5 + 3, none⟩ = some (.int .i64 d.r.y1) ∧ W.cell? ⟨ga, oa + j * 5 + 4, none⟩ = some (.slice d.A d.n d.c)) := fun W h => by
              obtain ⟨g', o', hA', hg', r⟩ := rdk ((HRC4.out.below hbq).below h) hjc
              obtain ⟨rfl, rfl⟩ : ga = g' ∧ oa = o' := by rw [hAA] at hA'; injection hA' with h; injection h with h1 h2; exact ⟨h1, h2⟩
              rw [Hd.out] at r; exact r
            have HXB : Hid (∀ W, Below wr.heap.size wr W → W.cell? ⟨gb, ob + j * 5, none⟩ = some (.int .i64 b.r.x0) ∧ W.cell? ⟨gb, ob + j * 5 + 1, none⟩ = some (.int .i64 b.r.y0) ∧ W.cell? ⟨gb, ob + j * 5 + 2, none⟩ = some (.int .i64 b.r.x1) ∧ W.cell? ⟨gb, ob + j * 5 + 3, none⟩ = some (.int .i64 b.r.y1) ∧ W.cell? ⟨gb, ob + j * 5 + 4, none⟩ = some (.slice b.A b.n b.c)) := fun W h => by
              obtain ⟨g', o', hA', hg', r⟩ := rdk ((HR.out.below hBq).below h) hjl
              obtain ⟨rfl, rfl⟩ : gb = g' ∧ ob = o' := by rw [hBB] at hA'; injection hA' with h; injection h with h1 h2; exact ⟨h1, h2⟩
              rw [Hb.out] at r; exact r
            subst hAA hBB
            clear hera hrl hmb hmd
            go_wp2_with fail
            refine wp_region_gob 10 [(0, true), (1, true), (2, true), (3, true), (4, true), (5, true), (6, true), (7, true), (8, false), (9, true)] (by kernel_rfl) (by kernel_rfl) (fun c a d v w h => by cases d <;> exact h) ?_
            repeat (first | (refine wpGo_pure (v := ?_) rfl rfl (fun w' hS => ?_) ?_; rotate_left; (· obtain ⟨d0, d1, d2, d3, d4⟩ := HXA.out w' hS; obtain ⟨f0, f1, f2, f3, f4⟩ := HXB.out w' hS; go_simp; exact rfl); (try simp only [Act.put, List.setIfInBounds_toArray, List.set_cons_zero, List.set_cons_succ])) | ((refine wpGo_skip rfl rfl ?_); (try simp only [Act.put, List.setIfInBounds_toArray, List.set_cons_zero, List.set_cons_succ])))
            refine wpGo_eff rfl (fun K hK => ?_)
            go_simp
            refine (rmequal_any d.r b.r d.A b.A d.n b.n d.c b.c d.l b.l _ (HDO.out.rd.below (bstep (show Below wr.heap.size wr _ from (by repeat (first | (with_reducible exact Below.refl _ _) | (with_reducible refine balloc ?_ _) | (with_reducible refine Below.drew ?_) | (with_reducible refine bdrewN ?_ _) | ((with_reducible refine bset ?_ ?_ _); rotate_left; focus (first | (with_reducible exact Nat.le_refl _) | (simp; done) | (simp; omega) | omega)) | (with_reducible refine bstep (by with_reducible assumption) ?_)))) hbq)) (HBO.out.rd.below (bstep (show Below wr.heap.size wr _ from (by repeat (first | (with_reducible exact Below.refl _ _) | (with_reducible refine balloc ?_ _) | (with_reducible refine Below.drew ?_) | (with_reducible refine bdrewN ?_ _) | ((with_reducible refine bset ?_ ?_ _); rotate_left; focus (first | (with_reducible exact Nat.le_refl _) | (simp; done) | (simp; omega) | omega)) | (with_reducible refine bstep (by with_reducible assumption) ?_)))) hBq)) HDO.out.ln HBO.out.ln (by omega) (by omega) true ⟨fun _ => HRL.out, fun _ => rfl⟩).mono ?_
            rintro e w21 ⟨rfl, hb21⟩
            refine hK.out _ _ (by repeat (first | (with_reducible exact Below.refl _ _) | (with_reducible refine balloc ?_ _) | (with_reducible refine Below.drew ?_) | (with_reducible refine bdrewN ?_ _) | ((with_reducible refine bset ?_ ?_ _); rotate_left; focus (first | (with_reducible exact Nat.le_refl _) | (simp; done) | (simp; omega) | omega)) | (with_reducible refine bstep (by with_reducible assumption) ?_))) (fun hS21 => ?_)
            clear hK K
            repeat (first | (refine wpGo_pure (v := ?_) rfl rfl (fun w' hS => ?_) ?_; rotate_left; (· obtain ⟨d0, d1, d2, d3, d4⟩ := HXA.out w' hS; obtain ⟨f0, f1, f2, f3, f4⟩ := HXB.out w' hS; go_simp; exact rfl); (try simp only [Act.put, List.setIfInBounds_toArray, List.set_cons_zero, List.set_cons_succ])) | ((refine wpGo_skip rfl rfl ?_); (try simp only [Act.put, List.setIfInBounds_toArray, List.set_cons_zero, List.set_cons_succ])))
            refine wpGo_nil ?_
            simp only [List.drop_succ_cons, List.drop_zero]
            have hBE : Below w4.heap.size w4 w21 := bstep (show Below wr.heap.size wr w21 from (by repeat (first | (with_reducible exact Below.refl _ _) | (with_reducible refine balloc ?_ _) | (with_reducible refine Below.drew ?_) | (with_reducible refine bdrewN ?_ _) | ((with_reducible refine bset ?_ ?_ _); rotate_left; focus (first | (with_reducible exact Nat.le_refl _) | (simp; done) | (simp; omega) | omega)) | (with_reducible refine bstep (by with_reducible assumption) ?_)))) hbq
            go_wp2
            go_roundw
            case rel => exact ⟨j + 1, by omega, by go_num, hBE⟩
            case measure => simp [intOf]; omega
          · obtain rfl : j = k := by omega
            go_wp2_with fail
            refine (ex_any _).mono ?_
            rintro e wz ⟨rfl, hbz⟩
            have hBE : Below w.heap.size w wz := bstep hbz (bstep hbq hB4)
            go_wp2
            go_ret
            exact ⟨rfl, hBE⟩

set_option maxRecDepth 100000 in
theorem lifted_MaskMultiply (os : Os) (started : os.Started) (H : Type) (enc : TypeId × Value → H) :
    ReturnsInHanded {} Try.checked os 3 .any (Rows.maskMultiplySpec.pre6 enc Try.prog Try.f3 Rows.maskMultiplyRow.domain false) (Rows.maskMultiplySpec.post enc Try.prog Try.f3 false true false false) := by
  refine returnsInHanded_of_change (C := Try.checked) Try.own started (by kernel_rfl) Try.func3
    (ChangeSpec.witness6 (enc := enc) (C := Try.checked) false ⟨#[], #[.slice none 0 0], []⟩ 8 (by kernel_rfl) (by kernel_rfl) (by kernel_rfl) (by kernel_rfl)) ?_
  intro W base args ds gs before hval0 hW hcnd _
  have hval : ∀ (j : Nat) t v, Try.f3.params[j]? = some t → args[j]? = some v → Value.okWide Try.prog W .any base t v := hval0
  have hW' := hW
  obtain ⟨p, q, hA0, hV, rfl, hfz, hnd⟩ := hW
  have hA : DataW.TrodAll enc Try.prog W 0 (fun _ => true) true Try.f3.params.toList args.toList ds p := hA0
  rw [Try.params3] at hA hval
  obtain ⟨v0, vs0, d0, ds0, p0, q0, hargs, rfl, rfl, h0, r0⟩ := trodAll_cons hA
  obtain ⟨rfl, rfl, rfl⟩ := trodAll_nil r0
  obtain rfl : args = #[v0] := by cases args; simp_all
  obtain ⟨A0, n0, c0, l0, rfl, hl0, hr0, hq0, hc0, hm0⟩ := openMks (hval 0 22 v0 rfl rfl) h0
  refine (walk_MaskMultiply A0 n0 c0 l0 W hr0 hl0 hq0 hc0 hm0).mono fun e W' ⟨he, hb⟩ => ?_
  subst he
  exact ⟨_, rfl, law_post (tb := 4) Try.laidOut (by kernel_rfl) hW' rfl rfl Try.underlying4 rfl rfl rfl hb⟩

theorem MaskMultiply_holds : Rows.MaskMultiplySaid :=
  OpenClaim.holds_of_wide 3 Try.f3 rfl rfl rfl rfl rfl rfl rfl ⟨rfl, rfl, rfl, rfl, rfl⟩ rfl rfl rfl rfl rfl (by kernel_rfl) Try.func3 (by kernel_rfl)
    (of_decide_eq_true (by kernel_rfl)) (by unfold Func.isWrapper; first | (rw [if_pos (by decide +kernel)]; kernel_rfl) | (rw [if_neg (by decide +kernel)]; exact ⟨rfl, rfl⟩))
    (fun os started H enc _ => lifted_MaskMultiply os started H enc)
#print axioms MaskMultiply_holds
end Go.Proofs.Ytndablijjkchjaa
