/- BitmapDiffBounds: for all bitmaps the law grisaillelaw30.BitmapDiffBounds returns true. No conditions. -/
import Derived.Test.YtnefnnhnjmmebaaPasteQ
import Derived.Test.YtnefnnhnjmmebaaBm7
import Derived.Test.YtnefnnhnjmmebaaBm8
import Derived.Test.YtnefnnhnjmmebaaEx30
import Derived.Test.YtnefnnhnjmmebaaOpenB
import Derived.Test.YtnefnnhnjmmebaaList4
namespace Go.Proofs.Ytnefnnhnjmmebaa
open Go.ChangeShapes Go.WideShapes Go.ChangeAt Go.RowKit
set_option linter.unusedSimpArgs false
set_option linter.unusedVariables false

set_option maxRecDepth 100000 in
set_option maxHeartbeats 6400000 in
theorem walk_BitmapDiffBounds (s t : Bm) (w : World) (hs : s.ok w) (ht : t.ok w) :
    Calls Try.prog 8 #[.agg #[.int .i64 s.r.x0, .int .i64 s.r.y0, .int .i64 s.r.x1, .int .i64 s.r.y1, .slice s.A s.n s.c], .agg #[.int .i64 t.r.x0, .int .i64 t.r.y0, .int .i64 t.r.x1, .int .i64 t.r.y1, .slice t.A t.n t.c]] w fun e w' => e = .returned (.bool true) ∧ Below w.heap.size w w' := by
  have HS := Lib.hid hs
  have HT := Lib.hid ht
  clear hs ht
  cases h1 : decide (s.n ≤ 2000) with
  | false =>
    have HSs := Lib.hid h1
    clear h1
    go_enter Try.func8, Try.ntmps8
    go_wp2_with fail
    refine (small_any s.r s.A s.n s.c _ false HSs).mono ?_
    rintro e w1 ⟨rfl, hb1⟩
    go_wp2_with fail
    refine (ex_any _).mono ?_
    rintro e w2 ⟨rfl, hb2⟩
    go_wp2
    go_ret
    exact ⟨rfl, (by repeat (first | (with_reducible exact Below.refl _ _) | (with_reducible refine balloc ?_ _) | (with_reducible refine Below.drew ?_) | (with_reducible refine bdrewN ?_ _) | ((with_reducible refine bset ?_ ?_ _); rotate_left; focus (first | (with_reducible exact Nat.le_refl _) | (simp; done) | (simp; omega) | omega)) | (with_reducible refine bstep (by with_reducible assumption) ?_)))⟩
  | true =>
    have HSs := Lib.hid h1
    cases h2 : decide (t.n ≤ 2000) with
    | false =>
      have HSt := Lib.hid h2
      clear h1 h2
      go_enter Try.func8, Try.ntmps8
      go_wp2_with fail
      refine (small_any s.r s.A s.n s.c _ true HSs).mono ?_
      rintro e w1 ⟨rfl, hb1⟩
      have kT1 : Bk w1 (w.heap.size + 1) 28 #[.int .i64 t.r.x0, .int .i64 t.r.y0, .int .i64 t.r.x1, .int .i64 t.r.y1, .slice t.A t.n t.c] := (by repeat (first | (with_reducible assumption) | ((with_reducible refine Bk.new _ _ _ ?_); first | (with_reducible rfl) | (simp; done)) | (with_reducible refine Bk.alloc ?_ _) | (with_reducible refine Bk.drew ?_) | (with_reducible refine Bk.drewN ?_ _) | ((with_reducible refine Bk.far ?_ ?_ _); rotate_left; focus (first | (simp; done) | (simp; omega))) | (with_reducible refine Bk.below ?_ (by with_reducible assumption)))); obtain ⟨kcT1, kfT1, kaT1, kgT1, klT1⟩ := kT1.rules
      go_wp2_with fail
      refine (small_any t.r t.A t.n t.c _ false HSt).mono ?_
      rintro e w2 ⟨rfl, hb2⟩
      clear kcT1 kfT1 kaT1 kgT1
      go_wp2_with fail
      refine (ex_any _).mono ?_
      rintro e w3 ⟨rfl, hb3⟩
      go_wp2
      go_ret
      exact ⟨rfl, (by repeat (first | (with_reducible exact Below.refl _ _) | (with_reducible refine balloc ?_ _) | (with_reducible refine Below.drew ?_) | (with_reducible refine bdrewN ?_ _) | ((with_reducible refine bset ?_ ?_ _); rotate_left; focus (first | (with_reducible exact Nat.le_refl _) | (simp; done) | (simp; omega) | omega)) | (with_reducible refine bstep (by with_reducible assumption) ?_)))⟩
    | true =>
      have HSt := Lib.hid h2
      have l1 := of_decide_eq_true h1
      have l2 := of_decide_eq_true h2
      clear h1 h2
      cases h3 : bmValid s.r s.l with
      | false =>
        have Hvs := Lib.hid h3
        clear h3
        go_enter Try.func8, Try.ntmps8
        go_wp2_with fail
        refine (small_any s.r s.A s.n s.c _ true HSs).mono ?_
        rintro e w1 ⟨rfl, hb1⟩
        have kT1 : Bk w1 (w.heap.size + 1) 28 #[.int .i64 t.r.x0, .int .i64 t.r.y0, .int .i64 t.r.x1, .int .i64 t.r.y1, .slice t.A t.n t.c] := (by repeat (first | (with_reducible assumption) | ((with_reducible refine Bk.new _ _ _ ?_); first | (with_reducible rfl) | (simp; done)) | (with_reducible refine Bk.alloc ?_ _) | (with_reducible refine Bk.drew ?_) | (with_reducible refine Bk.drewN ?_ _) | ((with_reducible refine Bk.far ?_ ?_ _); rotate_left; focus (first | (simp; done) | (simp; omega))) | (with_reducible refine Bk.below ?_ (by with_reducible assumption)))); obtain ⟨kcT1, kfT1, kaT1, kgT1, klT1⟩ := kT1.rules
        go_wp2_with fail
        refine (small_any t.r t.A t.n t.c _ true HSt).mono ?_
        rintro e w2 ⟨rfl, hb2⟩
        clear kcT1 kfT1 kaT1 kgT1
        have kS2 : Bk w2 (w.heap.size) 28 #[.int .i64 s.r.x0, .int .i64 s.r.y0, .int .i64 s.r.x1, .int .i64 s.r.y1, .slice s.A s.n s.c] := (by repeat (first | (with_reducible assumption) | ((with_reducible refine Bk.new _ _ _ ?_); first | (with_reducible rfl) | (simp; done)) | (with_reducible refine Bk.alloc ?_ _) | (with_reducible refine Bk.drew ?_) | (with_reducible refine Bk.drewN ?_ _) | ((with_reducible refine Bk.far ?_ ?_ _); rotate_left; focus (first | (simp; done) | (simp; omega))) | (with_reducible refine Bk.below ?_ (by with_reducible assumption)))); obtain ⟨kcS2, kfS2, kaS2, kgS2, klS2⟩ := kS2.rules
        go_wp2_with fail
        refine (rbvalid_any s.r s.A s.n s.c s.l _ (HS.out.rd.below (by repeat (first | (with_reducible exact Below.refl _ _) | (with_reducible refine balloc ?_ _) | (with_reducible refine Below.drew ?_) | (with_reducible refine bdrewN ?_ _) | ((with_reducible refine bset ?_ ?_ _); rotate_left; focus (first | (with_reducible exact Nat.le_refl _) | (simp; done) | (simp; omega) | omega)) | (with_reducible refine bstep (by with_reducible assumption) ?_)))) HS.out.ln (by omega) false Hvs).mono ?_
        rintro e w3 ⟨rfl, hb3⟩
        clear kcS2 kfS2 kaS2 kgS2
        go_wp2_with fail
        refine (ex_any _).mono ?_
        rintro e w4 ⟨rfl, hb4⟩
        go_wp2
        go_ret
        exact ⟨rfl, (by repeat (first | (with_reducible exact Below.refl _ _) | (with_reducible refine balloc ?_ _) | (with_reducible refine Below.drew ?_) | (with_reducible refine bdrewN ?_ _) | ((with_reducible refine bset ?_ ?_ _); rotate_left; focus (first | (with_reducible exact Nat.le_refl _) | (simp; done) | (simp; omega) | omega)) | (with_reducible refine bstep (by with_reducible assumption) ?_)))⟩
      | true =>
        have Hvs := Lib.hid h3
        cases h4 : bmValid t.r t.l with
        | false =>
          have Hvt := Lib.hid h4
          clear h3 h4
          go_enter Try.func8, Try.ntmps8
          go_wp2_with fail
          refine (small_any s.r s.A s.n s.c _ true HSs).mono ?_
          rintro e w1 ⟨rfl, hb1⟩
          have kT1 : Bk w1 (w.heap.size + 1) 28 #[.int .i64 t.r.x0, .int .i64 t.r.y0, .int .i64 t.r.x1, .int .i64 t.r.y1, .slice t.A t.n t.c] := (by repeat (first | (with_reducible assumption) | ((with_reducible refine Bk.new _ _ _ ?_); first | (with_reducible rfl) | (simp; done)) | (with_reducible refine Bk.alloc ?_ _) | (with_reducible refine Bk.drew ?_) | (with_reducible refine Bk.drewN ?_ _) | ((with_reducible refine Bk.far ?_ ?_ _); rotate_left; focus (first | (simp; done) | (simp; omega))) | (with_reducible refine Bk.below ?_ (by with_reducible assumption)))); obtain ⟨kcT1, kfT1, kaT1, kgT1, klT1⟩ := kT1.rules
          go_wp2_with fail
          refine (small_any t.r t.A t.n t.c _ true HSt).mono ?_
          rintro e w2 ⟨rfl, hb2⟩
          clear kcT1 kfT1 kaT1 kgT1
          have kS2 : Bk w2 (w.heap.size) 28 #[.int .i64 s.r.x0, .int .i64 s.r.y0, .int .i64 s.r.x1, .int .i64 s.r.y1, .slice s.A s.n s.c] := (by repeat (first | (with_reducible assumption) | ((with_reducible refine Bk.new _ _ _ ?_); first | (with_reducible rfl) | (simp; done)) | (with_reducible refine Bk.alloc ?_ _) | (with_reducible refine Bk.drew ?_) | (with_reducible refine Bk.drewN ?_ _) | ((with_reducible refine Bk.far ?_ ?_ _); rotate_left; focus (first | (simp; done) | (simp; omega))) | (with_reducible refine Bk.below ?_ (by with_reducible assumption)))); obtain ⟨kcS2, kfS2, kaS2, kgS2, klS2⟩ := kS2.rules
          go_wp2_with fail
          refine (rbvalid_any s.r s.A s.n s.c s.l _ (HS.out.rd.below (by repeat (first | (with_reducible exact Below.refl _ _) | (with_reducible refine balloc ?_ _) | (with_reducible refine Below.drew ?_) | (with_reducible refine bdrewN ?_ _) | ((with_reducible refine bset ?_ ?_ _); rotate_left; focus (first | (with_reducible exact Nat.le_refl _) | (simp; done) | (simp; omega) | omega)) | (with_reducible refine bstep (by with_reducible assumption) ?_)))) HS.out.ln (by omega) true Hvs).mono ?_
          rintro e w3 ⟨rfl, hb3⟩
          clear kcS2 kfS2 kaS2 kgS2
          have kT3 : Bk w3 (w.heap.size + 1) 28 #[.int .i64 t.r.x0, .int .i64 t.r.y0, .int .i64 t.r.x1, .int .i64 t.r.y1, .slice t.A t.n t.c] := (by repeat (first | (with_reducible assumption) | ((with_reducible refine Bk.new _ _ _ ?_); first | (with_reducible rfl) | (simp; done)) | (with_reducible refine Bk.alloc ?_ _) | (with_reducible refine Bk.drew ?_) | (with_reducible refine Bk.drewN ?_ _) | ((with_reducible refine Bk.far ?_ ?_ _); rotate_left; focus (first | (simp; done) | (simp; omega))) | (with_reducible refine Bk.below ?_ (by with_reducible assumption)))); obtain ⟨kcT3, kfT3, kaT3, kgT3, klT3⟩ := kT3.rules
          go_wp2_with fail
          refine (rbvalid_any t.r t.A t.n t.c t.l _ (HT.out.rd.below (by repeat (first | (with_reducible exact Below.refl _ _) | (with_reducible refine balloc ?_ _) | (with_reducible refine Below.drew ?_) | (with_reducible refine bdrewN ?_ _) | ((with_reducible refine bset ?_ ?_ _); rotate_left; focus (first | (with_reducible exact Nat.le_refl _) | (simp; done) | (simp; omega) | omega)) | (with_reducible refine bstep (by with_reducible assumption) ?_)))) HT.out.ln (by omega) false Hvt).mono ?_
          rintro e w4 ⟨rfl, hb4⟩
          clear kcT3 kfT3 kaT3 kgT3
          go_wp2_with fail
          refine (ex_any _).mono ?_
          rintro e w5 ⟨rfl, hb5⟩
          go_wp2
          go_ret
          exact ⟨rfl, (by repeat (first | (with_reducible exact Below.refl _ _) | (with_reducible refine balloc ?_ _) | (with_reducible refine Below.drew ?_) | (with_reducible refine bdrewN ?_ _) | ((with_reducible refine bset ?_ ?_ _); rotate_left; focus (first | (with_reducible exact Nat.le_refl _) | (simp; done) | (simp; omega) | omega)) | (with_reducible refine bstep (by with_reducible assumption) ?_)))⟩
        | true =>
          have Hvt := Lib.hid h4
          clear h3 h4
          obtain ⟨d, Hd⟩ : ∃ d, Hid (diffR s.r s.l t.r t.l = d) := ⟨_, rfl⟩
          obtain ⟨PR, HPR⟩ : ∃ u, Hid (crR t d = u) := ⟨_, rfl⟩
          obtain ⟨PL, HPL⟩ : ∃ u, Hid (crL t d = u) := ⟨_, rfl⟩
          obtain ⟨nP, HnP⟩ : ∃ u, Hid (PL.length = u) := ⟨_, rfl⟩
          have hvs : vBm s = true := Hvs.out
          have hvt : vBm t = true := Hvt.out
          have hPv : bmValid PR PL = true := by rw [← HPR.out, ← HPL.out]; exact cr_valid hvt d
          have HbP : Hid (pxsB PL) := by unfold Hid; rw [← HPL.out]; exact cr_bytes HT.out.byte d
          have hnP : nP ≤ 67108864 := by rw [← HnP.out, ← HPL.out]; exact cr_len t d
          obtain ⟨UL, HUL⟩ : ∃ u, Hid (pasL s [⟨PR, none, nP, 0, PL⟩] = u) := ⟨_, rfl⟩
          obtain ⟨nU, HnU⟩ : ∃ u, Hid (UL.length = u) := ⟨_, rfl⟩
          have hnU : nU ≤ 67108864 := by rw [← HnU.out, ← HUL.out]; exact pas_len _ _
          have HCr : Hid (∀ (W : World), t.ok W → Calls Try.prog 41 #[.agg #[.int .i64 t.r.x0, .int .i64 t.r.y0, .int .i64 t.r.x1, .int .i64 t.r.y1, .slice t.A t.n t.c], .agg #[.int .i64 d.x0, .int .i64 d.y0, .int .i64 d.x1, .int .i64 d.y1]] W (RetBE PR PL 0 W)) := fun W h => by
            have := bcrop_any t d W h (by omega)
            rw [HPR.out, HPL.out, (cr_form hvt d).2.2] at this
            exact this
          have HPa : Hid (∀ (A1 : Option Addr) (c1 : Nat) (A : Option Addr) (c : Nat) (W : World), s.ok W → RdL encBm 5 W A [⟨PR, A1, nP, c1, PL⟩] → (∀ x ∈ ([⟨PR, A1, nP, c1, PL⟩] : List Bm), x.ok W) → Calls Try.prog 31 #[.agg #[.int .i64 s.r.x0, .int .i64 s.r.y0, .int .i64 s.r.x1, .int .i64 s.r.y1, .slice s.A s.n s.c], .slice A 1 c] W (RetBE s.r UL 0 W)) := fun A1 c1 A c W h hr ho => by
            have := bpaste_any s A 1 c [⟨PR, A1, nP, c1, PL⟩] W h (by omega) hr rfl (by omega) ho (fun x hx => by rw [List.mem_singleton.1 hx]; show nP ≤ _; omega)
            have hpb : ∀ (A : Option Addr) (c : Nat), pasB s [⟨PR, A, nP, c, PL⟩] = true := fun A c => by
              unfold pasB; rw [hvs]; simp only [List.all_cons, List.all_nil, Bool.and_true, Bool.true_and]; exact hPv
            obtain ⟨g1, g2, g3⟩ := pas_form (hpb A1 c1)
            obtain ⟨_, g4, _⟩ := pas_form (hpb none 0)
            have g5 : pasL s [⟨PR, A1, nP, c1, PL⟩] = UL := by rw [← HUL.out, g2, g4]; rfl
            rw [g1, g5, g3] at this
            exact this
          have hdc : canonR d = d := by rw [← Hd.out]; exact diff_cn _ _ _ _
          obtain ⟨eb, Heb0⟩ : ∃ e, emptyB d = e := ⟨_, rfl⟩
          have Heb : Hid (emptyB ⟨d.x0, d.y0, d.x1, d.y1⟩ = eb) := Heb0
          have Heq : eqB ⟨d.x0, d.y0, d.x1, d.y1⟩ ⟨0, 0, 0, 0⟩ = eb := by
            rw [← Heb0, Bool.eq_iff_iff, eqB_iff]
            constructor
            · intro h
              have h' : d = ⟨0, 0, 0, 0⟩ := h
              rw [h']; exact zero_empty
            · intro h
              have h' : d = zR := cn_empty hdc h
              rw [h']; rfl
          have Hd2 : Hid (diffR t.r t.l s.r s.l = d) := by unfold Hid; rw [diff_comm]; exact Hd.out
          have hneq := fun w => (neq_rect d.x0 d.y0 d.x1 d.y1 d.x0 d.y0 d.x1 d.y1 w).trans (by rw [show eqB ⟨d.x0, d.y0, d.x1, d.y1⟩ ⟨d.x0, d.y0, d.x1, d.y1⟩ = true from eqB_refl d])
          have heql := fun w => (eql_rect d.x0 d.y0 d.x1 d.y1 0 0 0 0 w).trans (by rw [Heq])
          have hebb : (eb != eb) = false := by simp
          clear hvs hPv hdc Heb0 Heq
          cases hst : eqB s.r t.r with
          | true =>
            have hrr : s.r = t.r := (eqB_iff _ _).1 hst
            have HST : Hid (s.r = t.r ∧ UL = t.l) := by
              refine ⟨hrr, ?_⟩
              have hpb : pasB s [⟨PR, none, nP, 0, PL⟩] = true := by
                unfold pasB
                rw [show vBm s = true from Hvs.out]
                simp only [List.all_cons, List.all_nil, Bool.and_true, Bool.true_and]
                show bmValid PR PL = true
                rw [← HPR.out, ← HPL.out]; exact cr_valid hvt d
              rw [← HUL.out, (pas_form hpb).2.1]
              exact paste_back Hvs.out hvt hrr (by rw [Hd.out]; exact ⟨HPR.out.symm, HPL.out.symm⟩)
            have hneq2 := fun w => (neq_rect s.r.x0 s.r.y0 s.r.x1 s.r.y1 t.r.x0 t.r.y0 t.r.x1 t.r.y1 w).trans (by rw [show eqB ⟨s.r.x0, s.r.y0, s.r.x1, s.r.y1⟩ ⟨t.r.x0, t.r.y0, t.r.x1, t.r.y1⟩ = true from hst])
            clear hst hrr hvt
            go_enter Try.func8, Try.ntmps8
            go_wp2_with fail
            refine (small_any s.r s.A s.n s.c _ true HSs).mono ?_
            rintro e w1 ⟨rfl, hb1⟩
            have kT1 : Bk w1 (w.heap.size + 1) 28 #[.int .i64 t.r.x0, .int .i64 t.r.y0, .int .i64 t.r.x1, .int .i64 t.r.y1, .slice t.A t.n t.c] := (by repeat (first | (with_reducible assumption) | ((with_reducible refine Bk.new _ _ _ ?_); first | (with_reducible rfl) | (simp; done)) | (with_reducible refine Bk.alloc ?_ _) | (with_reducible refine Bk.drew ?_) | (with_reducible refine Bk.drewN ?_ _) | ((with_reducible refine Bk.far ?_ ?_ _); rotate_left; focus (first | (simp; done) | (simp; omega))) | (with_reducible refine Bk.below ?_ (by with_reducible assumption)))); obtain ⟨kcT1, kfT1, kaT1, kgT1, klT1⟩ := kT1.rules
            go_wp2_with fail
            refine (small_any t.r t.A t.n t.c _ true HSt).mono ?_
            rintro e w2 ⟨rfl, hb2⟩
            clear kcT1 kfT1 kaT1 kgT1
            have kS2 : Bk w2 (w.heap.size) 28 #[.int .i64 s.r.x0, .int .i64 s.r.y0, .int .i64 s.r.x1, .int .i64 s.r.y1, .slice s.A s.n s.c] := (by repeat (first | (with_reducible assumption) | ((with_reducible refine Bk.new _ _ _ ?_); first | (with_reducible rfl) | (simp; done)) | (with_reducible refine Bk.alloc ?_ _) | (with_reducible refine Bk.drew ?_) | (with_reducible refine Bk.drewN ?_ _) | ((with_reducible refine Bk.far ?_ ?_ _); rotate_left; focus (first | (simp; done) | (simp; omega))) | (with_reducible refine Bk.below ?_ (by with_reducible assumption)))); obtain ⟨kcS2, kfS2, kaS2, kgS2, klS2⟩ := kS2.rules
            go_wp2_with fail
            refine (rbvalid_any s.r s.A s.n s.c s.l _ (HS.out.rd.below (by repeat (first | (with_reducible exact Below.refl _ _) | (with_reducible refine balloc ?_ _) | (with_reducible refine Below.drew ?_) | (with_reducible refine bdrewN ?_ _) | ((with_reducible refine bset ?_ ?_ _); rotate_left; focus (first | (with_reducible exact Nat.le_refl _) | (simp; done) | (simp; omega) | omega)) | (with_reducible refine bstep (by with_reducible assumption) ?_)))) HS.out.ln (by omega) true Hvs).mono ?_
            rintro e w3 ⟨rfl, hb3⟩
            clear kcS2 kfS2 kaS2 kgS2
            have kT3 : Bk w3 (w.heap.size + 1) 28 #[.int .i64 t.r.x0, .int .i64 t.r.y0, .int .i64 t.r.x1, .int .i64 t.r.y1, .slice t.A t.n t.c] := (by repeat (first | (with_reducible assumption) | ((with_reducible refine Bk.new _ _ _ ?_); first | (with_reducible rfl) | (simp; done)) | (with_reducible refine Bk.alloc ?_ _) | (with_reducible refine Bk.drew ?_) | (with_reducible refine Bk.drewN ?_ _) | ((with_reducible refine Bk.far ?_ ?_ _); rotate_left; focus (first | (simp; done) | (simp; omega))) | (with_reducible refine Bk.below ?_ (by with_reducible assumption)))); obtain ⟨kcT3, kfT3, kaT3, kgT3, klT3⟩ := kT3.rules
            go_wp2_with fail
            refine (rbvalid_any t.r t.A t.n t.c t.l _ (HT.out.rd.below (by repeat (first | (with_reducible exact Below.refl _ _) | (with_reducible refine balloc ?_ _) | (with_reducible refine Below.drew ?_) | (with_reducible refine bdrewN ?_ _) | ((with_reducible refine bset ?_ ?_ _); rotate_left; focus (first | (with_reducible exact Nat.le_refl _) | (simp; done) | (simp; omega) | omega)) | (with_reducible refine bstep (by with_reducible assumption) ?_)))) HT.out.ln (by omega) true Hvt).mono ?_
            rintro e w4 ⟨rfl, hb4⟩
            clear kcT3 kfT3 kaT3 kgT3
            have kS4 : Bk w4 (w.heap.size) 28 #[.int .i64 s.r.x0, .int .i64 s.r.y0, .int .i64 s.r.x1, .int .i64 s.r.y1, .slice s.A s.n s.c] := (by repeat (first | (with_reducible assumption) | ((with_reducible refine Bk.new _ _ _ ?_); first | (with_reducible rfl) | (simp; done)) | (with_reducible refine Bk.alloc ?_ _) | (with_reducible refine Bk.drew ?_) | (with_reducible refine Bk.drewN ?_ _) | ((with_reducible refine Bk.far ?_ ?_ _); rotate_left; focus (first | (simp; done) | (simp; omega))) | (with_reducible refine Bk.below ?_ (by with_reducible assumption)))); obtain ⟨kcS4, kfS4, kaS4, kgS4, klS4⟩ := kS4.rules; have kT4 : Bk w4 (w.heap.size + 1) 28 #[.int .i64 t.r.x0, .int .i64 t.r.y0, .int .i64 t.r.x1, .int .i64 t.r.y1, .slice t.A t.n t.c] := (by repeat (first | (with_reducible assumption) | ((with_reducible refine Bk.new _ _ _ ?_); first | (with_reducible rfl) | (simp; done)) | (with_reducible refine Bk.alloc ?_ _) | (with_reducible refine Bk.drew ?_) | (with_reducible refine Bk.drewN ?_ _) | ((with_reducible refine Bk.far ?_ ?_ _); rotate_left; focus (first | (simp; done) | (simp; omega))) | (with_reducible refine Bk.below ?_ (by with_reducible assumption)))); obtain ⟨kcT4, kfT4, kaT4, kgT4, klT4⟩ := kT4.rules
            go_wp2_with fail
            refine (db_any s.r t.r s.A t.A s.n t.n s.c t.c s.l t.l _ (HS.out.rd.below (by repeat (first | (with_reducible exact Below.refl _ _) | (with_reducible refine balloc ?_ _) | (with_reducible refine Below.drew ?_) | (with_reducible refine bdrewN ?_ _) | ((with_reducible refine bset ?_ ?_ _); rotate_left; focus (first | (with_reducible exact Nat.le_refl _) | (simp; done) | (simp; omega) | omega)) | (with_reducible refine bstep (by with_reducible assumption) ?_)))) (HT.out.rd.below (by repeat (first | (with_reducible exact Below.refl _ _) | (with_reducible refine balloc ?_ _) | (with_reducible refine Below.drew ?_) | (with_reducible refine bdrewN ?_ _) | ((with_reducible refine bset ?_ ?_ _); rotate_left; focus (first | (with_reducible exact Nat.le_refl _) | (simp; done) | (simp; omega) | omega)) | (with_reducible refine bstep (by with_reducible assumption) ?_)))) HS.out.ln HT.out.ln (by omega) (by omega) d Hd).mono ?_
            rintro e w5 ⟨rfl, hb5⟩
            clear kcS4 kfS4 kaS4 kgS4 kcT4 kfT4 kaT4 kgT4
            have kS5 : Bk w5 (w.heap.size) 28 #[.int .i64 s.r.x0, .int .i64 s.r.y0, .int .i64 s.r.x1, .int .i64 s.r.y1, .slice s.A s.n s.c] := (by repeat (first | (with_reducible assumption) | ((with_reducible refine Bk.new _ _ _ ?_); first | (with_reducible rfl) | (simp; done)) | (with_reducible refine Bk.alloc ?_ _) | (with_reducible refine Bk.drew ?_) | (with_reducible refine Bk.drewN ?_ _) | ((with_reducible refine Bk.far ?_ ?_ _); rotate_left; focus (first | (simp; done) | (simp; omega))) | (with_reducible refine Bk.below ?_ (by with_reducible assumption)))); obtain ⟨kcS5, kfS5, kaS5, kgS5, klS5⟩ := kS5.rules; have kT5 : Bk w5 (w.heap.size + 1) 28 #[.int .i64 t.r.x0, .int .i64 t.r.y0, .int .i64 t.r.x1, .int .i64 t.r.y1, .slice t.A t.n t.c] := (by repeat (first | (with_reducible assumption) | ((with_reducible refine Bk.new _ _ _ ?_); first | (with_reducible rfl) | (simp; done)) | (with_reducible refine Bk.alloc ?_ _) | (with_reducible refine Bk.drew ?_) | (with_reducible refine Bk.drewN ?_ _) | ((with_reducible refine Bk.far ?_ ?_ _); rotate_left; focus (first | (simp; done) | (simp; omega))) | (with_reducible refine Bk.below ?_ (by with_reducible assumption)))); obtain ⟨kcT5, kfT5, kaT5, kgT5, klT5⟩ := kT5.rules
            
            have kD5 : Bk _ _ _ _ := Bk.new w5 23 #[.int .i64 d.x0, .int .i64 d.y0, .int .i64 d.x1, .int .i64 d.y1] rfl
            go_wp2_with fail
            clear kcS5 kfS5 kaS5 kgS5 kcT5 kfT5 kaT5 kgT5
            refine wp_region_gob 15 [(0, true), (1, true), (3, true), (2, false), (4, true), (5, true), (6, true), (8, true), (9, true), (11, true), (7, false), (10, false), (12, true), (13, true), (14, true)] (by kernel_rfl) (by kernel_rfl) (fun c a d v w h => by cases d <;> exact h) ?_
            repeat (first | (refine wpGo_pure (v := ?_) rfl rfl (fun w' hS => ?_) ?_; rotate_left; (· have kSp : Bk w' (w.heap.size) 28 #[.int .i64 s.r.x0, .int .i64 s.r.y0, .int .i64 s.r.x1, .int .i64 s.r.y1, .slice s.A s.n s.c] := (by repeat (first | (with_reducible assumption) | ((with_reducible refine Bk.new _ _ _ ?_); first | (with_reducible rfl) | (simp; done)) | (with_reducible refine Bk.alloc ?_ _) | (with_reducible refine Bk.drew ?_) | (with_reducible refine Bk.drewN ?_ _) | ((with_reducible refine Bk.far ?_ ?_ _); rotate_left; focus (first | (simp; done) | (simp; omega))) | (with_reducible refine Bk.below ?_ (by with_reducible assumption)))); obtain ⟨kcSp, kfSp, kaSp, kgSp, klSp⟩ := kSp.rules; have kTp : Bk w' (w.heap.size + 1) 28 #[.int .i64 t.r.x0, .int .i64 t.r.y0, .int .i64 t.r.x1, .int .i64 t.r.y1, .slice t.A t.n t.c] := (by repeat (first | (with_reducible assumption) | ((with_reducible refine Bk.new _ _ _ ?_); first | (with_reducible rfl) | (simp; done)) | (with_reducible refine Bk.alloc ?_ _) | (with_reducible refine Bk.drew ?_) | (with_reducible refine Bk.drewN ?_ _) | ((with_reducible refine Bk.far ?_ ?_ _); rotate_left; focus (first | (simp; done) | (simp; omega))) | (with_reducible refine Bk.below ?_ (by with_reducible assumption)))); obtain ⟨kcTp, kfTp, kaTp, kgTp, klTp⟩ := kTp.rules; have kDp : Bk w' (w5.heap.size) 23 #[.int .i64 d.x0, .int .i64 d.y0, .int .i64 d.x1, .int .i64 d.y1] := (by repeat (first | (with_reducible assumption) | ((with_reducible refine Bk.new _ _ _ ?_); first | (with_reducible rfl) | (simp; done)) | (with_reducible refine Bk.alloc ?_ _) | (with_reducible refine Bk.drew ?_) | (with_reducible refine Bk.drewN ?_ _) | ((with_reducible refine Bk.far ?_ ?_ _); rotate_left; focus (first | (simp; done) | (simp; omega))) | (with_reducible refine Bk.below ?_ (by with_reducible assumption)))); obtain ⟨kcDp, kfDp, kaDp, kgDp, klDp⟩ := kDp.rules; go_simp; exact rfl); (try simp only [Act.put, List.setIfInBounds_toArray, List.set_cons_zero, List.set_cons_succ])) | ((refine wpGo_skip rfl rfl ?_); (try simp only [Act.put, List.setIfInBounds_toArray, List.set_cons_zero, List.set_cons_succ])))
            refine wpGo_eff rfl (fun K hK => ?_)
            go_simp
            refine (db_any t.r s.r t.A s.A t.n s.n t.c s.c t.l s.l _ (HT.out.rd.below (by repeat (first | (with_reducible exact Below.refl _ _) | (with_reducible refine balloc ?_ _) | (with_reducible refine Below.drew ?_) | (with_reducible refine bdrewN ?_ _) | ((with_reducible refine bset ?_ ?_ _); rotate_left; focus (first | (with_reducible exact Nat.le_refl _) | (simp; done) | (simp; omega) | omega)) | (with_reducible refine bstep (by with_reducible assumption) ?_)))) (HS.out.rd.below (by repeat (first | (with_reducible exact Below.refl _ _) | (with_reducible refine balloc ?_ _) | (with_reducible refine Below.drew ?_) | (with_reducible refine bdrewN ?_ _) | ((with_reducible refine bset ?_ ?_ _); rotate_left; focus (first | (with_reducible exact Nat.le_refl _) | (simp; done) | (simp; omega) | omega)) | (with_reducible refine bstep (by with_reducible assumption) ?_)))) HT.out.ln HS.out.ln (by omega) (by omega) d Hd2).mono ?_
            rintro e w6 ⟨rfl, hb6⟩
            refine hK.out _ _ (by repeat (first | (with_reducible exact Below.refl _ _) | (with_reducible refine balloc ?_ _) | (with_reducible refine Below.drew ?_) | (with_reducible refine bdrewN ?_ _) | ((with_reducible refine bset ?_ ?_ _); rotate_left; focus (first | (with_reducible exact Nat.le_refl _) | (simp; done) | (simp; omega) | omega)) | (with_reducible refine bstep (by with_reducible assumption) ?_))) (fun hS6 => ?_)
            clear hK K
            repeat (first | (refine wpGo_pure (v := ?_) rfl rfl (fun w' hS => ?_) ?_; rotate_left; (· have kSp : Bk w' (w.heap.size) 28 #[.int .i64 s.r.x0, .int .i64 s.r.y0, .int .i64 s.r.x1, .int .i64 s.r.y1, .slice s.A s.n s.c] := (by repeat (first | (with_reducible assumption) | ((with_reducible refine Bk.new _ _ _ ?_); first | (with_reducible rfl) | (simp; done)) | (with_reducible refine Bk.alloc ?_ _) | (with_reducible refine Bk.drew ?_) | (with_reducible refine Bk.drewN ?_ _) | ((with_reducible refine Bk.far ?_ ?_ _); rotate_left; focus (first | (simp; done) | (simp; omega))) | (with_reducible refine Bk.below ?_ (by with_reducible assumption)))); obtain ⟨kcSp, kfSp, kaSp, kgSp, klSp⟩ := kSp.rules; have kTp : Bk w' (w.heap.size + 1) 28 #[.int .i64 t.r.x0, .int .i64 t.r.y0, .int .i64 t.r.x1, .int .i64 t.r.y1, .slice t.A t.n t.c] := (by repeat (first | (with_reducible assumption) | ((with_reducible refine Bk.new _ _ _ ?_); first | (with_reducible rfl) | (simp; done)) | (with_reducible refine Bk.alloc ?_ _) | (with_reducible refine Bk.drew ?_) | (with_reducible refine Bk.drewN ?_ _) | ((with_reducible refine Bk.far ?_ ?_ _); rotate_left; focus (first | (simp; done) | (simp; omega))) | (with_reducible refine Bk.below ?_ (by with_reducible assumption)))); obtain ⟨kcTp, kfTp, kaTp, kgTp, klTp⟩ := kTp.rules; have kDp : Bk w' (w5.heap.size) 23 #[.int .i64 d.x0, .int .i64 d.y0, .int .i64 d.x1, .int .i64 d.y1] := (by repeat (first | (with_reducible assumption) | ((with_reducible refine Bk.new _ _ _ ?_); first | (with_reducible rfl) | (simp; done)) | (with_reducible refine Bk.alloc ?_ _) | (with_reducible refine Bk.drew ?_) | (with_reducible refine Bk.drewN ?_ _) | ((with_reducible refine Bk.far ?_ ?_ _); rotate_left; focus (first | (simp; done) | (simp; omega))) | (with_reducible refine Bk.below ?_ (by with_reducible assumption)))); obtain ⟨kcDp, kfDp, kaDp, kgDp, klDp⟩ := kDp.rules; go_simp; exact rfl); (try simp only [Act.put, List.setIfInBounds_toArray, List.set_cons_zero, List.set_cons_succ])) | ((refine wpGo_skip rfl rfl ?_); (try simp only [Act.put, List.setIfInBounds_toArray, List.set_cons_zero, List.set_cons_succ])))
            refine wpGo_eff rfl (fun K hK => ?_)
            go_simp
            refine (rempty_q _ _ _ _ eb Heb _).mono ?_
            rintro e w7 ⟨rfl, hb7⟩
            refine hK.out _ _ (by repeat (first | (with_reducible exact Below.refl _ _) | (with_reducible refine balloc ?_ _) | (with_reducible refine Below.drew ?_) | (with_reducible refine bdrewN ?_ _) | ((with_reducible refine bset ?_ ?_ _); rotate_left; focus (first | (with_reducible exact Nat.le_refl _) | (simp; done) | (simp; omega) | omega)) | (with_reducible refine bstep (by with_reducible assumption) ?_))) (fun hS7 => ?_)
            clear hK K
            refine wpGo_eff rfl (fun K hK => ?_)
            go_simp
            refine (db_any t.r s.r t.A s.A t.n s.n t.c s.c t.l s.l _ (HT.out.rd.below (by repeat (first | (with_reducible exact Below.refl _ _) | (with_reducible refine balloc ?_ _) | (with_reducible refine Below.drew ?_) | (with_reducible refine bdrewN ?_ _) | ((with_reducible refine bset ?_ ?_ _); rotate_left; focus (first | (with_reducible exact Nat.le_refl _) | (simp; done) | (simp; omega) | omega)) | (with_reducible refine bstep (by with_reducible assumption) ?_)))) (HS.out.rd.below (by repeat (first | (with_reducible exact Below.refl _ _) | (with_reducible refine balloc ?_ _) | (with_reducible refine Below.drew ?_) | (with_reducible refine bdrewN ?_ _) | ((with_reducible refine bset ?_ ?_ _); rotate_left; focus (first | (with_reducible exact Nat.le_refl _) | (simp; done) | (simp; omega) | omega)) | (with_reducible refine bstep (by with_reducible assumption) ?_)))) HT.out.ln HS.out.ln (by omega) (by omega) d Hd2).mono ?_
            rintro e w8 ⟨rfl, hb8⟩
            refine hK.out _ _ (by repeat (first | (with_reducible exact Below.refl _ _) | (with_reducible refine balloc ?_ _) | (with_reducible refine Below.drew ?_) | (with_reducible refine bdrewN ?_ _) | ((with_reducible refine bset ?_ ?_ _); rotate_left; focus (first | (with_reducible exact Nat.le_refl _) | (simp; done) | (simp; omega) | omega)) | (with_reducible refine bstep (by with_reducible assumption) ?_))) (fun hS8 => ?_)
            clear hK K
            repeat (first | (refine wpGo_pure (v := ?_) rfl rfl (fun w' hS => ?_) ?_; rotate_left; (· have kSp : Bk w' (w.heap.size) 28 #[.int .i64 s.r.x0, .int .i64 s.r.y0, .int .i64 s.r.x1, .int .i64 s.r.y1, .slice s.A s.n s.c] := (by repeat (first | (with_reducible assumption) | ((with_reducible refine Bk.new _ _ _ ?_); first | (with_reducible rfl) | (simp; done)) | (with_reducible refine Bk.alloc ?_ _) | (with_reducible refine Bk.drew ?_) | (with_reducible refine Bk.drewN ?_ _) | ((with_reducible refine Bk.far ?_ ?_ _); rotate_left; focus (first | (simp; done) | (simp; omega))) | (with_reducible refine Bk.below ?_ (by with_reducible assumption)))); obtain ⟨kcSp, kfSp, kaSp, kgSp, klSp⟩ := kSp.rules; have kTp : Bk w' (w.heap.size + 1) 28 #[.int .i64 t.r.x0, .int .i64 t.r.y0, .int .i64 t.r.x1, .int .i64 t.r.y1, .slice t.A t.n t.c] := (by repeat (first | (with_reducible assumption) | ((with_reducible refine Bk.new _ _ _ ?_); first | (with_reducible rfl) | (simp; done)) | (with_reducible refine Bk.alloc ?_ _) | (with_reducible refine Bk.drew ?_) | (with_reducible refine Bk.drewN ?_ _) | ((with_reducible refine Bk.far ?_ ?_ _); rotate_left; focus (first | (simp; done) | (simp; omega))) | (with_reducible refine Bk.below ?_ (by with_reducible assumption)))); obtain ⟨kcTp, kfTp, kaTp, kgTp, klTp⟩ := kTp.rules; have kDp : Bk w' (w5.heap.size) 23 #[.int .i64 d.x0, .int .i64 d.y0, .int .i64 d.x1, .int .i64 d.y1] := (by repeat (first | (with_reducible assumption) | ((with_reducible refine Bk.new _ _ _ ?_); first | (with_reducible rfl) | (simp; done)) | (with_reducible refine Bk.alloc ?_ _) | (with_reducible refine Bk.drew ?_) | (with_reducible refine Bk.drewN ?_ _) | ((with_reducible refine Bk.far ?_ ?_ _); rotate_left; focus (first | (simp; done) | (simp; omega))) | (with_reducible refine Bk.below ?_ (by with_reducible assumption)))); obtain ⟨kcDp, kfDp, kaDp, kgDp, klDp⟩ := kDp.rules; go_simp; exact rfl); (try simp only [Act.put, List.setIfInBounds_toArray, List.set_cons_zero, List.set_cons_succ])) | ((refine wpGo_skip rfl rfl ?_); (try simp only [Act.put, List.setIfInBounds_toArray, List.set_cons_zero, List.set_cons_succ])))
            refine wpGo_nil ?_
            simp only [List.drop_succ_cons, List.drop_zero]
            have kT8 : Bk w8 (w.heap.size + 1) 28 #[.int .i64 t.r.x0, .int .i64 t.r.y0, .int .i64 t.r.x1, .int .i64 t.r.y1, .slice t.A t.n t.c] := (by repeat (first | (with_reducible assumption) | ((with_reducible refine Bk.new _ _ _ ?_); first | (with_reducible rfl) | (simp; done)) | (with_reducible refine Bk.alloc ?_ _) | (with_reducible refine Bk.drew ?_) | (with_reducible refine Bk.drewN ?_ _) | ((with_reducible refine Bk.far ?_ ?_ _); rotate_left; focus (first | (simp; done) | (simp; omega))) | (with_reducible refine Bk.below ?_ (by with_reducible assumption)))); obtain ⟨kcT8, kfT8, kaT8, kgT8, klT8⟩ := kT8.rules; have kD8 : Bk w8 (w5.heap.size) 23 #[.int .i64 d.x0, .int .i64 d.y0, .int .i64 d.x1, .int .i64 d.y1] := (by repeat (first | (with_reducible assumption) | ((with_reducible refine Bk.new _ _ _ ?_); first | (with_reducible rfl) | (simp; done)) | (with_reducible refine Bk.alloc ?_ _) | (with_reducible refine Bk.drew ?_) | (with_reducible refine Bk.drewN ?_ _) | ((with_reducible refine Bk.far ?_ ?_ _); rotate_left; focus (first | (simp; done) | (simp; omega))) | (with_reducible refine Bk.below ?_ (by with_reducible assumption)))); obtain ⟨kcD8, kfD8, kaD8, kgD8, klD8⟩ := kD8.rules
            go_wp2_with fail
            refine (HCr.out _ (HT.out.below (by repeat (first | (with_reducible exact Below.refl _ _) | (with_reducible refine balloc ?_ _) | (with_reducible refine Below.drew ?_) | (with_reducible refine bdrewN ?_ _) | ((with_reducible refine bset ?_ ?_ _); rotate_left; focus (first | (with_reducible exact Nat.le_refl _) | (simp; done) | (simp; omega) | omega)) | (with_reducible refine bstep (by with_reducible assumption) ?_))))).mono ?_
            rintro e w9 ⟨v9, rfl, ho9, hb9⟩
            clear kcT8 kfT8 kaT8 kgT8 kcD8 kfD8 kaD8 kgD8
            have kS9 : Bk w9 (w.heap.size) 28 #[.int .i64 s.r.x0, .int .i64 s.r.y0, .int .i64 s.r.x1, .int .i64 s.r.y1, .slice s.A s.n s.c] := (by repeat (first | (with_reducible assumption) | ((with_reducible refine Bk.new _ _ _ ?_); first | (with_reducible rfl) | (simp; done)) | (with_reducible refine Bk.alloc ?_ _) | (with_reducible refine Bk.drew ?_) | (with_reducible refine Bk.drewN ?_ _) | ((with_reducible refine Bk.far ?_ ?_ _); rotate_left; focus (first | (simp; done) | (simp; omega))) | (with_reducible refine Bk.below ?_ (by with_reducible assumption)))); obtain ⟨kcS9, kfS9, kaS9, kgS9, klS9⟩ := kS9.rules
            obtain ⟨A9, c9, hv9, hr9, hle9, hmx9⟩ := ho9.form2 encP_len
            rw [HnP.out] at hv9 hle9
            subst hv9
            have HR9 := Lib.hid hr9
            have HC9 := Lib.hid (And.intro hle9 hmx9)
            clear hr9 hle9 hmx9
            clear ho9
            
            go_wp2_with fail
            refine (HPa.out A9 c9 _ _ _ (HS.out.below (by repeat (first | (with_reducible exact Below.refl _ _) | (with_reducible refine balloc ?_ _) | (with_reducible refine Below.drew ?_) | (with_reducible refine bdrewN ?_ _) | ((with_reducible refine bset ?_ ?_ _); rotate_left; focus (first | (with_reducible exact Nat.le_refl _) | (simp; done) | (simp; omega) | omega)) | (with_reducible refine bstep (by with_reducible assumption) ?_)))) (rd_of_bk (e := 28) encBm_len (Bk.new _ _ _ (by first | rfl | simp)) rfl) (fun x hx => by rw [List.mem_singleton.1 hx]; exact ⟨HR9.out.below (by repeat (first | (with_reducible exact Below.refl _ _) | (with_reducible refine balloc ?_ _) | (with_reducible refine Below.drew ?_) | (with_reducible refine bdrewN ?_ _) | ((with_reducible refine bset ?_ ?_ _); rotate_left; focus (first | (with_reducible exact Nat.le_refl _) | (simp; done) | (simp; omega) | omega)) | (with_reducible refine bstep (by with_reducible assumption) ?_))), HnP.out, HbP.out, HC9.out.1, HC9.out.2⟩)).mono ?_
            rintro e w10 ⟨v10, rfl, ho10, hb10⟩
            clear kcS9 kfS9 kaS9 kgS9
            have kS10 : Bk w10 (w.heap.size) 28 #[.int .i64 s.r.x0, .int .i64 s.r.y0, .int .i64 s.r.x1, .int .i64 s.r.y1, .slice s.A s.n s.c] := (by repeat (first | (with_reducible assumption) | ((with_reducible refine Bk.new _ _ _ ?_); first | (with_reducible rfl) | (simp; done)) | (with_reducible refine Bk.alloc ?_ _) | (with_reducible refine Bk.drew ?_) | (with_reducible refine Bk.drewN ?_ _) | ((with_reducible refine Bk.far ?_ ?_ _); rotate_left; focus (first | (simp; done) | (simp; omega))) | (with_reducible refine Bk.below ?_ (by with_reducible assumption)))); obtain ⟨kcS10, kfS10, kaS10, kgS10, klS10⟩ := kS10.rules; have kT10 : Bk w10 (w.heap.size + 1) 28 #[.int .i64 t.r.x0, .int .i64 t.r.y0, .int .i64 t.r.x1, .int .i64 t.r.y1, .slice t.A t.n t.c] := (by repeat (first | (with_reducible assumption) | ((with_reducible refine Bk.new _ _ _ ?_); first | (with_reducible rfl) | (simp; done)) | (with_reducible refine Bk.alloc ?_ _) | (with_reducible refine Bk.drew ?_) | (with_reducible refine Bk.drewN ?_ _) | ((with_reducible refine Bk.far ?_ ?_ _); rotate_left; focus (first | (simp; done) | (simp; omega))) | (with_reducible refine Bk.below ?_ (by with_reducible assumption)))); obtain ⟨kcT10, kfT10, kaT10, kgT10, klT10⟩ := kT10.rules
            obtain ⟨A10, c10, hv10, hr10, hle10, hmx10⟩ := ho10.form2 encP_len
            rw [HnU.out] at hv10 hle10
            subst hv10
            have HR10 := Lib.hid hr10
            have HC10 := Lib.hid (And.intro hle10 hmx10)
            clear hr10 hle10 hmx10
            clear ho10
            
            have kU10 : Bk _ _ _ _ := Bk.new w10 28 #[.int .i64 s.r.x0, .int .i64 s.r.y0, .int .i64 s.r.x1, .int .i64 s.r.y1, .slice A10 nU c10] rfl
            have hUr : RdL encP 4 w10 A10 UL := HR10.out
            have HXU := Lib.hid hUr
            go_wp2_with fail
            refine (requal_any s.r t.r A10 t.A nU t.n c10 t.c UL t.l _ (HXU.out.below (by repeat (first | (with_reducible exact Below.refl _ _) | (with_reducible refine balloc ?_ _) | (with_reducible refine Below.drew ?_) | (with_reducible refine bdrewN ?_ _) | ((with_reducible refine bset ?_ ?_ _); rotate_left; focus (first | (with_reducible exact Nat.le_refl _) | (simp; done) | (simp; omega) | omega)) | (with_reducible refine bstep (by with_reducible assumption) ?_)))) (HT.out.rd.below (by repeat (first | (with_reducible exact Below.refl _ _) | (with_reducible refine balloc ?_ _) | (with_reducible refine Below.drew ?_) | (with_reducible refine bdrewN ?_ _) | ((with_reducible refine bset ?_ ?_ _); rotate_left; focus (first | (with_reducible exact Nat.le_refl _) | (simp; done) | (simp; omega) | omega)) | (with_reducible refine bstep (by with_reducible assumption) ?_)))) HnU.out HT.out.ln (by omega) (by omega) true ⟨fun _ => HST.out, fun _ => rfl⟩).mono ?_
            rintro e w11 ⟨rfl, hb11⟩
            clear kcS10 kfS10 kaS10 kgS10 kcT10 kfT10 kaT10 kgT10
            go_wp2_with fail
            refine (ex_any _).mono ?_
            rintro e w12 ⟨rfl, hb12⟩
            go_wp2
            go_ret
            exact ⟨rfl, (by repeat (first | (with_reducible exact Below.refl _ _) | (with_reducible refine balloc ?_ _) | (with_reducible refine Below.drew ?_) | (with_reducible refine bdrewN ?_ _) | ((with_reducible refine bset ?_ ?_ _); rotate_left; focus (first | (with_reducible exact Nat.le_refl _) | (simp; done) | (simp; omega) | omega)) | (with_reducible refine bstep (by with_reducible assumption) ?_)))⟩
          | false =>
            have hneq2 := fun w => (neq_rect s.r.x0 s.r.y0 s.r.x1 s.r.y1 t.r.x0 t.r.y0 t.r.x1 t.r.y1 w).trans (by rw [show eqB ⟨s.r.x0, s.r.y0, s.r.x1, s.r.y1⟩ ⟨t.r.x0, t.r.y0, t.r.x1, t.r.y1⟩ = false from hst])
            clear hst hvt
            go_enter Try.func8, Try.ntmps8
            go_wp2_with fail
            refine (small_any s.r s.A s.n s.c _ true HSs).mono ?_
            rintro e w1 ⟨rfl, hb1⟩
            have kT1 : Bk w1 (w.heap.size + 1) 28 #[.int .i64 t.r.x0, .int .i64 t.r.y0, .int .i64 t.r.x1, .int .i64 t.r.y1, .slice t.A t.n t.c] := (by repeat (first | (with_reducible assumption) | ((with_reducible refine Bk.new _ _ _ ?_); first | (with_reducible rfl) | (simp; done)) | (with_reducible refine Bk.alloc ?_ _) | (with_reducible refine Bk.drew ?_) | (with_reducible refine Bk.drewN ?_ _) | ((with_reducible refine Bk.far ?_ ?_ _); rotate_left; focus (first | (simp; done) | (simp; omega))) | (with_reducible refine Bk.below ?_ (by with_reducible assumption)))); obtain ⟨kcT1, kfT1, kaT1, kgT1, klT1⟩ := kT1.rules
            go_wp2_with fail
            refine (small_any t.r t.A t.n t.c _ true HSt).mono ?_
            rintro e w2 ⟨rfl, hb2⟩
            clear kcT1 kfT1 kaT1 kgT1
            have kS2 : Bk w2 (w.heap.size) 28 #[.int .i64 s.r.x0, .int .i64 s.r.y0, .int .i64 s.r.x1, .int .i64 s.r.y1, .slice s.A s.n s.c] := (by repeat (first | (with_reducible assumption) | ((with_reducible refine Bk.new _ _ _ ?_); first | (with_reducible rfl) | (simp; done)) | (with_reducible refine Bk.alloc ?_ _) | (with_reducible refine Bk.drew ?_) | (with_reducible refine Bk.drewN ?_ _) | ((with_reducible refine Bk.far ?_ ?_ _); rotate_left; focus (first | (simp; done) | (simp; omega))) | (with_reducible refine Bk.below ?_ (by with_reducible assumption)))); obtain ⟨kcS2, kfS2, kaS2, kgS2, klS2⟩ := kS2.rules
            go_wp2_with fail
            refine (rbvalid_any s.r s.A s.n s.c s.l _ (HS.out.rd.below (by repeat (first | (with_reducible exact Below.refl _ _) | (with_reducible refine balloc ?_ _) | (with_reducible refine Below.drew ?_) | (with_reducible refine bdrewN ?_ _) | ((with_reducible refine bset ?_ ?_ _); rotate_left; focus (first | (with_reducible exact Nat.le_refl _) | (simp; done) | (simp; omega) | omega)) | (with_reducible refine bstep (by with_reducible assumption) ?_)))) HS.out.ln (by omega) true Hvs).mono ?_
            rintro e w3 ⟨rfl, hb3⟩
            clear kcS2 kfS2 kaS2 kgS2
            have kT3 : Bk w3 (w.heap.size + 1) 28 #[.int .i64 t.r.x0, .int .i64 t.r.y0, .int .i64 t.r.x1, .int .i64 t.r.y1, .slice t.A t.n t.c] := (by repeat (first | (with_reducible assumption) | ((with_reducible refine Bk.new _ _ _ ?_); first | (with_reducible rfl) | (simp; done)) | (with_reducible refine Bk.alloc ?_ _) | (with_reducible refine Bk.drew ?_) | (with_reducible refine Bk.drewN ?_ _) | ((with_reducible refine Bk.far ?_ ?_ _); rotate_left; focus (first | (simp; done) | (simp; omega))) | (with_reducible refine Bk.below ?_ (by with_reducible assumption)))); obtain ⟨kcT3, kfT3, kaT3, kgT3, klT3⟩ := kT3.rules
            go_wp2_with fail
            refine (rbvalid_any t.r t.A t.n t.c t.l _ (HT.out.rd.below (by repeat (first | (with_reducible exact Below.refl _ _) | (with_reducible refine balloc ?_ _) | (with_reducible refine Below.drew ?_) | (with_reducible refine bdrewN ?_ _) | ((with_reducible refine bset ?_ ?_ _); rotate_left; focus (first | (with_reducible exact Nat.le_refl _) | (simp; done) | (simp; omega) | omega)) | (with_reducible refine bstep (by with_reducible assumption) ?_)))) HT.out.ln (by omega) true Hvt).mono ?_
            rintro e w4 ⟨rfl, hb4⟩
            clear kcT3 kfT3 kaT3 kgT3
            have kS4 : Bk w4 (w.heap.size) 28 #[.int .i64 s.r.x0, .int .i64 s.r.y0, .int .i64 s.r.x1, .int .i64 s.r.y1, .slice s.A s.n s.c] := (by repeat (first | (with_reducible assumption) | ((with_reducible refine Bk.new _ _ _ ?_); first | (with_reducible rfl) | (simp; done)) | (with_reducible refine Bk.alloc ?_ _) | (with_reducible refine Bk.drew ?_) | (with_reducible refine Bk.drewN ?_ _) | ((with_reducible refine Bk.far ?_ ?_ _); rotate_left; focus (first | (simp; done) | (simp; omega))) | (with_reducible refine Bk.below ?_ (by with_reducible assumption)))); obtain ⟨kcS4, kfS4, kaS4, kgS4, klS4⟩ := kS4.rules; have kT4 : Bk w4 (w.heap.size + 1) 28 #[.int .i64 t.r.x0, .int .i64 t.r.y0, .int .i64 t.r.x1, .int .i64 t.r.y1, .slice t.A t.n t.c] := (by repeat (first | (with_reducible assumption) | ((with_reducible refine Bk.new _ _ _ ?_); first | (with_reducible rfl) | (simp; done)) | (with_reducible refine Bk.alloc ?_ _) | (with_reducible refine Bk.drew ?_) | (with_reducible refine Bk.drewN ?_ _) | ((with_reducible refine Bk.far ?_ ?_ _); rotate_left; focus (first | (simp; done) | (simp; omega))) | (with_reducible refine Bk.below ?_ (by with_reducible assumption)))); obtain ⟨kcT4, kfT4, kaT4, kgT4, klT4⟩ := kT4.rules
            go_wp2_with fail
            refine (db_any s.r t.r s.A t.A s.n t.n s.c t.c s.l t.l _ (HS.out.rd.below (by repeat (first | (with_reducible exact Below.refl _ _) | (with_reducible refine balloc ?_ _) | (with_reducible refine Below.drew ?_) | (with_reducible refine bdrewN ?_ _) | ((with_reducible refine bset ?_ ?_ _); rotate_left; focus (first | (with_reducible exact Nat.le_refl _) | (simp; done) | (simp; omega) | omega)) | (with_reducible refine bstep (by with_reducible assumption) ?_)))) (HT.out.rd.below (by repeat (first | (with_reducible exact Below.refl _ _) | (with_reducible refine balloc ?_ _) | (with_reducible refine Below.drew ?_) | (with_reducible refine bdrewN ?_ _) | ((with_reducible refine bset ?_ ?_ _); rotate_left; focus (first | (with_reducible exact Nat.le_refl _) | (simp; done) | (simp; omega) | omega)) | (with_reducible refine bstep (by with_reducible assumption) ?_)))) HS.out.ln HT.out.ln (by omega) (by omega) d Hd).mono ?_
            rintro e w5 ⟨rfl, hb5⟩
            clear kcS4 kfS4 kaS4 kgS4 kcT4 kfT4 kaT4 kgT4
            have kS5 : Bk w5 (w.heap.size) 28 #[.int .i64 s.r.x0, .int .i64 s.r.y0, .int .i64 s.r.x1, .int .i64 s.r.y1, .slice s.A s.n s.c] := (by repeat (first | (with_reducible assumption) | ((with_reducible refine Bk.new _ _ _ ?_); first | (with_reducible rfl) | (simp; done)) | (with_reducible refine Bk.alloc ?_ _) | (with_reducible refine Bk.drew ?_) | (with_reducible refine Bk.drewN ?_ _) | ((with_reducible refine Bk.far ?_ ?_ _); rotate_left; focus (first | (simp; done) | (simp; omega))) | (with_reducible refine Bk.below ?_ (by with_reducible assumption)))); obtain ⟨kcS5, kfS5, kaS5, kgS5, klS5⟩ := kS5.rules; have kT5 : Bk w5 (w.heap.size + 1) 28 #[.int .i64 t.r.x0, .int .i64 t.r.y0, .int .i64 t.r.x1, .int .i64 t.r.y1, .slice t.A t.n t.c] := (by repeat (first | (with_reducible assumption) | ((with_reducible refine Bk.new _ _ _ ?_); first | (with_reducible rfl) | (simp; done)) | (with_reducible refine Bk.alloc ?_ _) | (with_reducible refine Bk.drew ?_) | (with_reducible refine Bk.drewN ?_ _) | ((with_reducible refine Bk.far ?_ ?_ _); rotate_left; focus (first | (simp; done) | (simp; omega))) | (with_reducible refine Bk.below ?_ (by with_reducible assumption)))); obtain ⟨kcT5, kfT5, kaT5, kgT5, klT5⟩ := kT5.rules
            
            have kD5 : Bk _ _ _ _ := Bk.new w5 23 #[.int .i64 d.x0, .int .i64 d.y0, .int .i64 d.x1, .int .i64 d.y1] rfl
            go_wp2_with fail
            clear kcS5 kfS5 kaS5 kgS5 kcT5 kfT5 kaT5 kgT5
            refine wp_region_gob 15 [(0, true), (1, true), (3, true), (2, false), (4, true), (5, true), (6, true), (8, true), (9, true), (11, true), (7, false), (10, false), (12, true), (13, true), (14, true)] (by kernel_rfl) (by kernel_rfl) (fun c a d v w h => by cases d <;> exact h) ?_
            repeat (first | (refine wpGo_pure (v := ?_) rfl rfl (fun w' hS => ?_) ?_; rotate_left; (· have kSp : Bk w' (w.heap.size) 28 #[.int .i64 s.r.x0, .int .i64 s.r.y0, .int .i64 s.r.x1, .int .i64 s.r.y1, .slice s.A s.n s.c] := (by repeat (first | (with_reducible assumption) | ((with_reducible refine Bk.new _ _ _ ?_); first | (with_reducible rfl) | (simp; done)) | (with_reducible refine Bk.alloc ?_ _) | (with_reducible refine Bk.drew ?_) | (with_reducible refine Bk.drewN ?_ _) | ((with_reducible refine Bk.far ?_ ?_ _); rotate_left; focus (first | (simp; done) | (simp; omega))) | (with_reducible refine Bk.below ?_ (by with_reducible assumption)))); obtain ⟨kcSp, kfSp, kaSp, kgSp, klSp⟩ := kSp.rules; have kTp : Bk w' (w.heap.size + 1) 28 #[.int .i64 t.r.x0, .int .i64 t.r.y0, .int .i64 t.r.x1, .int .i64 t.r.y1, .slice t.A t.n t.c] := (by repeat (first | (with_reducible assumption) | ((with_reducible refine Bk.new _ _ _ ?_); first | (with_reducible rfl) | (simp; done)) | (with_reducible refine Bk.alloc ?_ _) | (with_reducible refine Bk.drew ?_) | (with_reducible refine Bk.drewN ?_ _) | ((with_reducible refine Bk.far ?_ ?_ _); rotate_left; focus (first | (simp; done) | (simp; omega))) | (with_reducible refine Bk.below ?_ (by with_reducible assumption)))); obtain ⟨kcTp, kfTp, kaTp, kgTp, klTp⟩ := kTp.rules; have kDp : Bk w' (w5.heap.size) 23 #[.int .i64 d.x0, .int .i64 d.y0, .int .i64 d.x1, .int .i64 d.y1] := (by repeat (first | (with_reducible assumption) | ((with_reducible refine Bk.new _ _ _ ?_); first | (with_reducible rfl) | (simp; done)) | (with_reducible refine Bk.alloc ?_ _) | (with_reducible refine Bk.drew ?_) | (with_reducible refine Bk.drewN ?_ _) | ((with_reducible refine Bk.far ?_ ?_ _); rotate_left; focus (first | (simp; done) | (simp; omega))) | (with_reducible refine Bk.below ?_ (by with_reducible assumption)))); obtain ⟨kcDp, kfDp, kaDp, kgDp, klDp⟩ := kDp.rules; go_simp; exact rfl); (try simp only [Act.put, List.setIfInBounds_toArray, List.set_cons_zero, List.set_cons_succ])) | ((refine wpGo_skip rfl rfl ?_); (try simp only [Act.put, List.setIfInBounds_toArray, List.set_cons_zero, List.set_cons_succ])))
            refine wpGo_eff rfl (fun K hK => ?_)
            go_simp
            refine (db_any t.r s.r t.A s.A t.n s.n t.c s.c t.l s.l _ (HT.out.rd.below (by repeat (first | (with_reducible exact Below.refl _ _) | (with_reducible refine balloc ?_ _) | (with_reducible refine Below.drew ?_) | (with_reducible refine bdrewN ?_ _) | ((with_reducible refine bset ?_ ?_ _); rotate_left; focus (first | (with_reducible exact Nat.le_refl _) | (simp; done) | (simp; omega) | omega)) | (with_reducible refine bstep (by with_reducible assumption) ?_)))) (HS.out.rd.below (by repeat (first | (with_reducible exact Below.refl _ _) | (with_reducible refine balloc ?_ _) | (with_reducible refine Below.drew ?_) | (with_reducible refine bdrewN ?_ _) | ((with_reducible refine bset ?_ ?_ _); rotate_left; focus (first | (with_reducible exact Nat.le_refl _) | (simp; done) | (simp; omega) | omega)) | (with_reducible refine bstep (by with_reducible assumption) ?_)))) HT.out.ln HS.out.ln (by omega) (by omega) d Hd2).mono ?_
            rintro e w6 ⟨rfl, hb6⟩
            refine hK.out _ _ (by repeat (first | (with_reducible exact Below.refl _ _) | (with_reducible refine balloc ?_ _) | (with_reducible refine Below.drew ?_) | (with_reducible refine bdrewN ?_ _) | ((with_reducible refine bset ?_ ?_ _); rotate_left; focus (first | (with_reducible exact Nat.le_refl _) | (simp; done) | (simp; omega) | omega)) | (with_reducible refine bstep (by with_reducible assumption) ?_))) (fun hS6 => ?_)
            clear hK K
            repeat (first | (refine wpGo_pure (v := ?_) rfl rfl (fun w' hS => ?_) ?_; rotate_left; (· have kSp : Bk w' (w.heap.size) 28 #[.int .i64 s.r.x0, .int .i64 s.r.y0, .int .i64 s.r.x1, .int .i64 s.r.y1, .slice s.A s.n s.c] := (by repeat (first | (with_reducible assumption) | ((with_reducible refine Bk.new _ _ _ ?_); first | (with_reducible rfl) | (simp; done)) | (with_reducible refine Bk.alloc ?_ _) | (with_reducible refine Bk.drew ?_) | (with_reducible refine Bk.drewN ?_ _) | ((with_reducible refine Bk.far ?_ ?_ _); rotate_left; focus (first | (simp; done) | (simp; omega))) | (with_reducible refine Bk.below ?_ (by with_reducible assumption)))); obtain ⟨kcSp, kfSp, kaSp, kgSp, klSp⟩ := kSp.rules; have kTp : Bk w' (w.heap.size + 1) 28 #[.int .i64 t.r.x0, .int .i64 t.r.y0, .int .i64 t.r.x1, .int .i64 t.r.y1, .slice t.A t.n t.c] := (by repeat (first | (with_reducible assumption) | ((with_reducible refine Bk.new _ _ _ ?_); first | (with_reducible rfl) | (simp; done)) | (with_reducible refine Bk.alloc ?_ _) | (with_reducible refine Bk.drew ?_) | (with_reducible refine Bk.drewN ?_ _) | ((with_reducible refine Bk.far ?_ ?_ _); rotate_left; focus (first | (simp; done) | (simp; omega))) | (with_reducible refine Bk.below ?_ (by with_reducible assumption)))); obtain ⟨kcTp, kfTp, kaTp, kgTp, klTp⟩ := kTp.rules; have kDp : Bk w' (w5.heap.size) 23 #[.int .i64 d.x0, .int .i64 d.y0, .int .i64 d.x1, .int .i64 d.y1] := (by repeat (first | (with_reducible assumption) | ((with_reducible refine Bk.new _ _ _ ?_); first | (with_reducible rfl) | (simp; done)) | (with_reducible refine Bk.alloc ?_ _) | (with_reducible refine Bk.drew ?_) | (with_reducible refine Bk.drewN ?_ _) | ((with_reducible refine Bk.far ?_ ?_ _); rotate_left; focus (first | (simp; done) | (simp; omega))) | (with_reducible refine Bk.below ?_ (by with_reducible assumption)))); obtain ⟨kcDp, kfDp, kaDp, kgDp, klDp⟩ := kDp.rules; go_simp; exact rfl); (try simp only [Act.put, List.setIfInBounds_toArray, List.set_cons_zero, List.set_cons_succ])) | ((refine wpGo_skip rfl rfl ?_); (try simp only [Act.put, List.setIfInBounds_toArray, List.set_cons_zero, List.set_cons_succ])))
            refine wpGo_eff rfl (fun K hK => ?_)
            go_simp
            refine (rempty_q _ _ _ _ eb Heb _).mono ?_
            rintro e w7 ⟨rfl, hb7⟩
            refine hK.out _ _ (by repeat (first | (with_reducible exact Below.refl _ _) | (with_reducible refine balloc ?_ _) | (with_reducible refine Below.drew ?_) | (with_reducible refine bdrewN ?_ _) | ((with_reducible refine bset ?_ ?_ _); rotate_left; focus (first | (with_reducible exact Nat.le_refl _) | (simp; done) | (simp; omega) | omega)) | (with_reducible refine bstep (by with_reducible assumption) ?_))) (fun hS7 => ?_)
            clear hK K
            refine wpGo_eff rfl (fun K hK => ?_)
            go_simp
            refine (db_any t.r s.r t.A s.A t.n s.n t.c s.c t.l s.l _ (HT.out.rd.below (by repeat (first | (with_reducible exact Below.refl _ _) | (with_reducible refine balloc ?_ _) | (with_reducible refine Below.drew ?_) | (with_reducible refine bdrewN ?_ _) | ((with_reducible refine bset ?_ ?_ _); rotate_left; focus (first | (with_reducible exact Nat.le_refl _) | (simp; done) | (simp; omega) | omega)) | (with_reducible refine bstep (by with_reducible assumption) ?_)))) (HS.out.rd.below (by repeat (first | (with_reducible exact Below.refl _ _) | (with_reducible refine balloc ?_ _) | (with_reducible refine Below.drew ?_) | (with_reducible refine bdrewN ?_ _) | ((with_reducible refine bset ?_ ?_ _); rotate_left; focus (first | (with_reducible exact Nat.le_refl _) | (simp; done) | (simp; omega) | omega)) | (with_reducible refine bstep (by with_reducible assumption) ?_)))) HT.out.ln HS.out.ln (by omega) (by omega) d Hd2).mono ?_
            rintro e w8 ⟨rfl, hb8⟩
            refine hK.out _ _ (by repeat (first | (with_reducible exact Below.refl _ _) | (with_reducible refine balloc ?_ _) | (with_reducible refine Below.drew ?_) | (with_reducible refine bdrewN ?_ _) | ((with_reducible refine bset ?_ ?_ _); rotate_left; focus (first | (with_reducible exact Nat.le_refl _) | (simp; done) | (simp; omega) | omega)) | (with_reducible refine bstep (by with_reducible assumption) ?_))) (fun hS8 => ?_)
            clear hK K
            repeat (first | (refine wpGo_pure (v := ?_) rfl rfl (fun w' hS => ?_) ?_; rotate_left; (· have kSp : Bk w' (w.heap.size) 28 #[.int .i64 s.r.x0, .int .i64 s.r.y0, .int .i64 s.r.x1, .int .i64 s.r.y1, .slice s.A s.n s.c] := (by repeat (first | (with_reducible assumption) | ((with_reducible refine Bk.new _ _ _ ?_); first | (with_reducible rfl) | (simp; done)) | (with_reducible refine Bk.alloc ?_ _) | (with_reducible refine Bk.drew ?_) | (with_reducible refine Bk.drewN ?_ _) | ((with_reducible refine Bk.far ?_ ?_ _); rotate_left; focus (first | (simp; done) | (simp; omega))) | (with_reducible refine Bk.below ?_ (by with_reducible assumption)))); obtain ⟨kcSp, kfSp, kaSp, kgSp, klSp⟩ := kSp.rules; have kTp : Bk w' (w.heap.size + 1) 28 #[.int .i64 t.r.x0, .int .i64 t.r.y0, .int .i64 t.r.x1, .int .i64 t.r.y1, .slice t.A t.n t.c] := (by repeat (first | (with_reducible assumption) | ((with_reducible refine Bk.new _ _ _ ?_); first | (with_reducible rfl) | (simp; done)) | (with_reducible refine Bk.alloc ?_ _) | (with_reducible refine Bk.drew ?_) | (with_reducible refine Bk.drewN ?_ _) | ((with_reducible refine Bk.far ?_ ?_ _); rotate_left; focus (first | (simp; done) | (simp; omega))) | (with_reducible refine Bk.below ?_ (by with_reducible assumption)))); obtain ⟨kcTp, kfTp, kaTp, kgTp, klTp⟩ := kTp.rules; have kDp : Bk w' (w5.heap.size) 23 #[.int .i64 d.x0, .int .i64 d.y0, .int .i64 d.x1, .int .i64 d.y1] := (by repeat (first | (with_reducible assumption) | ((with_reducible refine Bk.new _ _ _ ?_); first | (with_reducible rfl) | (simp; done)) | (with_reducible refine Bk.alloc ?_ _) | (with_reducible refine Bk.drew ?_) | (with_reducible refine Bk.drewN ?_ _) | ((with_reducible refine Bk.far ?_ ?_ _); rotate_left; focus (first | (simp; done) | (simp; omega))) | (with_reducible refine Bk.below ?_ (by with_reducible assumption)))); obtain ⟨kcDp, kfDp, kaDp, kgDp, klDp⟩ := kDp.rules; go_simp; exact rfl); (try simp only [Act.put, List.setIfInBounds_toArray, List.set_cons_zero, List.set_cons_succ])) | ((refine wpGo_skip rfl rfl ?_); (try simp only [Act.put, List.setIfInBounds_toArray, List.set_cons_zero, List.set_cons_succ])))
            refine wpGo_nil ?_
            simp only [List.drop_succ_cons, List.drop_zero]
            have kT8 : Bk w8 (w.heap.size + 1) 28 #[.int .i64 t.r.x0, .int .i64 t.r.y0, .int .i64 t.r.x1, .int .i64 t.r.y1, .slice t.A t.n t.c] := (by repeat (first | (with_reducible assumption) | ((with_reducible refine Bk.new _ _ _ ?_); first | (with_reducible rfl) | (simp; done)) | (with_reducible refine Bk.alloc ?_ _) | (with_reducible refine Bk.drew ?_) | (with_reducible refine Bk.drewN ?_ _) | ((with_reducible refine Bk.far ?_ ?_ _); rotate_left; focus (first | (simp; done) | (simp; omega))) | (with_reducible refine Bk.below ?_ (by with_reducible assumption)))); obtain ⟨kcT8, kfT8, kaT8, kgT8, klT8⟩ := kT8.rules; have kD8 : Bk w8 (w5.heap.size) 23 #[.int .i64 d.x0, .int .i64 d.y0, .int .i64 d.x1, .int .i64 d.y1] := (by repeat (first | (with_reducible assumption) | ((with_reducible refine Bk.new _ _ _ ?_); first | (with_reducible rfl) | (simp; done)) | (with_reducible refine Bk.alloc ?_ _) | (with_reducible refine Bk.drew ?_) | (with_reducible refine Bk.drewN ?_ _) | ((with_reducible refine Bk.far ?_ ?_ _); rotate_left; focus (first | (simp; done) | (simp; omega))) | (with_reducible refine Bk.below ?_ (by with_reducible assumption)))); obtain ⟨kcD8, kfD8, kaD8, kgD8, klD8⟩ := kD8.rules
            go_wp2_with fail
            refine (HCr.out _ (HT.out.below (by repeat (first | (with_reducible exact Below.refl _ _) | (with_reducible refine balloc ?_ _) | (with_reducible refine Below.drew ?_) | (with_reducible refine bdrewN ?_ _) | ((with_reducible refine bset ?_ ?_ _); rotate_left; focus (first | (with_reducible exact Nat.le_refl _) | (simp; done) | (simp; omega) | omega)) | (with_reducible refine bstep (by with_reducible assumption) ?_))))).mono ?_
            rintro e w9 ⟨v9, rfl, ho9, hb9⟩
            clear kcT8 kfT8 kaT8 kgT8 kcD8 kfD8 kaD8 kgD8
            have kS9 : Bk w9 (w.heap.size) 28 #[.int .i64 s.r.x0, .int .i64 s.r.y0, .int .i64 s.r.x1, .int .i64 s.r.y1, .slice s.A s.n s.c] := (by repeat (first | (with_reducible assumption) | ((with_reducible refine Bk.new _ _ _ ?_); first | (with_reducible rfl) | (simp; done)) | (with_reducible refine Bk.alloc ?_ _) | (with_reducible refine Bk.drew ?_) | (with_reducible refine Bk.drewN ?_ _) | ((with_reducible refine Bk.far ?_ ?_ _); rotate_left; focus (first | (simp; done) | (simp; omega))) | (with_reducible refine Bk.below ?_ (by with_reducible assumption)))); obtain ⟨kcS9, kfS9, kaS9, kgS9, klS9⟩ := kS9.rules
            obtain ⟨A9, c9, hv9, hr9, hle9, hmx9⟩ := ho9.form2 encP_len
            rw [HnP.out] at hv9 hle9
            subst hv9
            have HR9 := Lib.hid hr9
            have HC9 := Lib.hid (And.intro hle9 hmx9)
            clear hr9 hle9 hmx9
            clear ho9
            
            go_wp2_with fail
            refine (HPa.out A9 c9 _ _ _ (HS.out.below (by repeat (first | (with_reducible exact Below.refl _ _) | (with_reducible refine balloc ?_ _) | (with_reducible refine Below.drew ?_) | (with_reducible refine bdrewN ?_ _) | ((with_reducible refine bset ?_ ?_ _); rotate_left; focus (first | (with_reducible exact Nat.le_refl _) | (simp; done) | (simp; omega) | omega)) | (with_reducible refine bstep (by with_reducible assumption) ?_)))) (rd_of_bk (e := 28) encBm_len (Bk.new _ _ _ (by first | rfl | simp)) rfl) (fun x hx => by rw [List.mem_singleton.1 hx]; exact ⟨HR9.out.below (by repeat (first | (with_reducible exact Below.refl _ _) | (with_reducible refine balloc ?_ _) | (with_reducible refine Below.drew ?_) | (with_reducible refine bdrewN ?_ _) | ((with_reducible refine bset ?_ ?_ _); rotate_left; focus (first | (with_reducible exact Nat.le_refl _) | (simp; done) | (simp; omega) | omega)) | (with_reducible refine bstep (by with_reducible assumption) ?_))), HnP.out, HbP.out, HC9.out.1, HC9.out.2⟩)).mono ?_
            rintro e w10 ⟨v10, rfl, ho10, hb10⟩
            clear kcS9 kfS9 kaS9 kgS9
            have kS10 : Bk w10 (w.heap.size) 28 #[.int .i64 s.r.x0, .int .i64 s.r.y0, .int .i64 s.r.x1, .int .i64 s.r.y1, .slice s.A s.n s.c] := (by repeat (first | (with_reducible assumption) | ((with_reducible refine Bk.new _ _ _ ?_); first | (with_reducible rfl) | (simp; done)) | (with_reducible refine Bk.alloc ?_ _) | (with_reducible refine Bk.drew ?_) | (with_reducible refine Bk.drewN ?_ _) | ((with_reducible refine Bk.far ?_ ?_ _); rotate_left; focus (first | (simp; done) | (simp; omega))) | (with_reducible refine Bk.below ?_ (by with_reducible assumption)))); obtain ⟨kcS10, kfS10, kaS10, kgS10, klS10⟩ := kS10.rules; have kT10 : Bk w10 (w.heap.size + 1) 28 #[.int .i64 t.r.x0, .int .i64 t.r.y0, .int .i64 t.r.x1, .int .i64 t.r.y1, .slice t.A t.n t.c] := (by repeat (first | (with_reducible assumption) | ((with_reducible refine Bk.new _ _ _ ?_); first | (with_reducible rfl) | (simp; done)) | (with_reducible refine Bk.alloc ?_ _) | (with_reducible refine Bk.drew ?_) | (with_reducible refine Bk.drewN ?_ _) | ((with_reducible refine Bk.far ?_ ?_ _); rotate_left; focus (first | (simp; done) | (simp; omega))) | (with_reducible refine Bk.below ?_ (by with_reducible assumption)))); obtain ⟨kcT10, kfT10, kaT10, kgT10, klT10⟩ := kT10.rules
            obtain ⟨A10, c10, hv10, hr10, hle10, hmx10⟩ := ho10.form2 encP_len
            rw [HnU.out] at hv10 hle10
            subst hv10
            have HR10 := Lib.hid hr10
            have HC10 := Lib.hid (And.intro hle10 hmx10)
            clear hr10 hle10 hmx10
            clear ho10
            
            have kU10 : Bk _ _ _ _ := Bk.new w10 28 #[.int .i64 s.r.x0, .int .i64 s.r.y0, .int .i64 s.r.x1, .int .i64 s.r.y1, .slice A10 nU c10] rfl
            go_wp2_with fail
            refine (ex_any _).mono ?_
            rintro e w11 ⟨rfl, hb11⟩
            clear kcS10 kfS10 kaS10 kgS10 kcT10 kfT10 kaT10 kgT10
            go_wp2
            go_ret
            exact ⟨rfl, (by repeat (first | (with_reducible exact Below.refl _ _) | (with_reducible refine balloc ?_ _) | (with_reducible refine Below.drew ?_) | (with_reducible refine bdrewN ?_ _) | ((with_reducible refine bset ?_ ?_ _); rotate_left; focus (first | (with_reducible exact Nat.le_refl _) | (simp; done) | (simp; omega) | omega)) | (with_reducible refine bstep (by with_reducible assumption) ?_)))⟩

set_option maxRecDepth 100000 in
theorem lifted_BitmapDiffBounds (os : Os) (started : os.Started) (H : Type) (enc : TypeId × Value → H) :
    ReturnsInHanded {} Try.checked os 8 .any (Rows.bitmapDiffBoundsSpec.pre6 enc Try.prog Try.f8 Rows.bitmapDiffBoundsRow.domain false) (Rows.bitmapDiffBoundsSpec.post enc Try.prog Try.f8 false true false false) := by
  refine returnsInHanded_of_change (C := Try.checked) Try.own started (by kernel_rfl) Try.func8
    (ChangeSpec.witness6 (enc := enc) (C := Try.checked) false ⟨#[], #[.agg #[.int .i64 0, .int .i64 0, .int .i64 0, .int .i64 0, .slice none 0 0], .agg #[.int .i64 0, .int .i64 0, .int .i64 0, .int .i64 0, .slice none 0 0]], []⟩ 8 (by kernel_rfl) (by kernel_rfl) (by kernel_rfl) (by kernel_rfl)) ?_
  intro W base args ds gs before hval0 hW hcnd _
  have hval : ∀ (j : Nat) t v, Try.f8.params[j]? = some t → args[j]? = some v → Value.okWide Try.prog W .any base t v := hval0
  have hW' := hW
  obtain ⟨p, q, hA0, hV, rfl, hfz, hnd⟩ := hW
  have hA : DataW.TrodAll enc Try.prog W 0 (fun _ => true) true Try.f8.params.toList args.toList ds p := hA0
  rw [Try.params8] at hA hval
  obtain ⟨v0, vs0, d0, ds0, p0, q0, hargs, rfl, rfl, h0, r0⟩ := trodAll_cons hA
  obtain ⟨v1, vs1, d1, ds1, p1, q1, rfl, rfl, rfl, h1, r1⟩ := trodAll_cons r0
  obtain ⟨rfl, rfl, rfl⟩ := trodAll_nil r1
  obtain rfl : args = #[v0, v1] := by cases args; simp_all
  obtain ⟨b0, rfl, ho0⟩ := openBm (hval 0 28 v0 rfl rfl) h0
  obtain ⟨b1, rfl, ho1⟩ := openBm (hval 1 28 v1 rfl rfl) h1
  refine (walk_BitmapDiffBounds b0 b1 W ho0 ho1).mono fun e W' ⟨he, hb⟩ => ?_
  subst he
  exact ⟨_, rfl, law_post (tb := 4) Try.laidOut (by kernel_rfl) hW' rfl rfl Try.underlying4 rfl rfl rfl hb⟩

theorem BitmapDiffBounds_holds : Rows.BitmapDiffBoundsSaid :=
  OpenClaim.holds_of_wide 8 Try.f8 rfl rfl rfl rfl rfl rfl rfl ⟨rfl, rfl, rfl, rfl, rfl⟩ rfl rfl rfl rfl rfl (by kernel_rfl) Try.func8 (by kernel_rfl)
    (of_decide_eq_true (by kernel_rfl)) (by unfold Func.isWrapper; first | (rw [if_pos (by decide +kernel)]; kernel_rfl) | (rw [if_neg (by decide +kernel)]; exact ⟨rfl, rfl⟩))
    (fun os started H enc _ => lifted_BitmapDiffBounds os started H enc)
#print axioms BitmapDiffBounds_holds
end Go.Proofs.Ytnefnnhnjmmebaa
