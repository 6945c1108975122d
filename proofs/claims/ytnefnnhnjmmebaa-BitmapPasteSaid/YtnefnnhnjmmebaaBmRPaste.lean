/-
  The walk of grisailleref30.Paste.
-/
import Derived.Test.YtnefnnhnjmmebaaPasteP
import Derived.Test.YtnefnnhnjmmebaaBm3
import Derived.Test.YtnefnnhnjmmebaaBm7
import Derived.Test.YtnefnnhnjmmebaaRef09
namespace Go.Proofs.Ytnefnnhnjmmebaa
open Go.RowKit
set_option linter.unusedSimpArgs false
set_option linter.unusedVariables false

theorem OwnL.setOut {α : Type} {enc : α → List Value} {e : TypeId} {sz : Nat} {w : World} {base : Nat} {v : Value} {l : List α} (ho : OwnL enc e sz w base v l) {g : Nat} (hne : some g ≠ v.ownBlock) (i : Nat) (u : Value) : OwnL enc e sz (w.setCell ⟨g, i, none⟩ u) base v l :=
  ownsRow_setCell_other ho (fun h => hne h.symm) u

set_option maxRecDepth 100000 in
set_option maxHeartbeats 12800000 in
theorem rbpaste_any (s : Bm) (A : Option Addr) (n c : Nat) (l : List Bm) (w : World) (hs : s.ok w) (hsn : s.n ≤ 4000000000) (hr : RdL encBm 5 w A l) (hn : l.length = n) (hn2 : n ≤ 4000000000) (ho : ∀ b ∈ l, b.ok w) (hsz : ∀ b ∈ l, b.n ≤ 4000000000) :
    Calls Try.prog 32 #[.agg #[.int .i64 s.r.x0, .int .i64 s.r.y0, .int .i64 s.r.x1, .int .i64 s.r.y1, .slice s.A s.n s.c], .slice A n c] w (RetBE (pasR s l) (pasL s l) (pasE s l) w) := by
  have HS := Lib.hid hs
  have HR := Lib.hid hr
  have Hn := Lib.hid hn
  have HO := Lib.hid ho
  have HSZ := Lib.hid hsz
  clear hs hr hn ho hsz
  cases hp : pasB s l with
  | false =>
    have e1 : pasR s l = ⟨0, 0, 0, 0⟩ := by unfold pasR; rw [hp]; rfl
    have e2 : pasL s l = [] := by unfold pasL; rw [hp]; rfl
    have e3 : pasE s l = 15 := by unfold pasE; rw [hp]; rfl
    rw [e1, e2, e3]
    clear e1 e2 e3
    cases hv1 : vBm s with
    | false =>
      have Hvs : Hid (bmValid s.r s.l = false) := hv1
      clear hp hv1
      go_enter Try.func32, Try.ntmps32
      go_wp2_with fail
      refine (rbvalid_any s.r s.A s.n s.c s.l _ (HS.out.rd.below (by repeat (first | (with_reducible exact Below.refl _ _) | (with_reducible refine balloc ?_ _) | (with_reducible refine Below.drew ?_) | (with_reducible refine bdrewN ?_ _) | ((with_reducible refine bset ?_ ?_ _); rotate_left; focus (first | (with_reducible exact Nat.le_refl _) | (simp; done) | (simp; omega) | omega)) | (with_reducible refine bstep (by with_reducible assumption) ?_)))) HS.out.ln hsn false Hvs).mono ?_
      rintro e w1 ⟨rfl, hb1⟩
      have kO1 : Bk w1 (w.heap.size + 1) 28 #[.int .i64 0, .int .i64 0, .int .i64 0, .int .i64 0, .slice none 0 0] := (by repeat (first | (with_reducible assumption) | ((with_reducible refine Bk.new _ _ _ ?_); first | (with_reducible rfl) | (simp; done)) | (with_reducible refine Bk.alloc ?_ _) | (with_reducible refine Bk.drew ?_) | (with_reducible refine Bk.drewN ?_ _) | ((with_reducible refine Bk.far ?_ ?_ _); rotate_left; focus (first | (simp; done) | (simp; omega))) | (with_reducible refine Bk.below ?_ (by with_reducible assumption)))); obtain ⟨kcO1, kfO1, kaO1, kgO1, klO1⟩ := kO1.rules
      go_wp2
      refine bodyPost_ret (v := _) ?_ rfl (RetBE.no 15 (by repeat (first | (with_reducible exact Below.refl _ _) | (with_reducible refine balloc ?_ _) | (with_reducible refine Below.drew ?_) | (with_reducible refine bdrewN ?_ _) | ((with_reducible refine bset ?_ ?_ _); rotate_left; focus (first | (with_reducible exact Nat.le_refl _) | (simp; done) | (simp; omega) | omega)) | (with_reducible refine bstep (by with_reducible assumption) ?_))))
      simp [results, Try.results32, go_sem, kcO1]
    | true =>
      have Hvl : Hid (l.all vBm = false) := by
        unfold Hid
        cases h : l.all vBm with
        | false => rfl
        | true => unfold pasB at hp; rw [hv1, h] at hp; cases hp
      have Hvs : Hid (bmValid s.r s.l = true) := hv1
      clear hp hv1
      go_enter Try.func32, Try.ntmps32
      go_wp2_with fail
      refine (rbvalid_any s.r s.A s.n s.c s.l _ (HS.out.rd.below (by repeat (first | (with_reducible exact Below.refl _ _) | (with_reducible refine balloc ?_ _) | (with_reducible refine Below.drew ?_) | (with_reducible refine bdrewN ?_ _) | ((with_reducible refine bset ?_ ?_ _); rotate_left; focus (first | (with_reducible exact Nat.le_refl _) | (simp; done) | (simp; omega) | omega)) | (with_reducible refine bstep (by with_reducible assumption) ?_)))) HS.out.ln hsn true Hvs).mono ?_
      rintro e w1 ⟨rfl, hb1⟩
      have kC1 : Bk w1 (w.heap.size) 28 #[.int .i64 s.r.x0, .int .i64 s.r.y0, .int .i64 s.r.x1, .int .i64 s.r.y1, .slice s.A s.n s.c] := (by repeat (first | (with_reducible assumption) | ((with_reducible refine Bk.new _ _ _ ?_); first | (with_reducible rfl) | (simp; done)) | (with_reducible refine Bk.alloc ?_ _) | (with_reducible refine Bk.drew ?_) | (with_reducible refine Bk.drewN ?_ _) | ((with_reducible refine Bk.far ?_ ?_ _); rotate_left; focus (first | (simp; done) | (simp; omega))) | (with_reducible refine Bk.below ?_ (by with_reducible assumption)))); obtain ⟨kcC1, kfC1, kaC1, kgC1, klC1⟩ := kC1.rules; have kO1 : Bk w1 (w.heap.size + 1) 28 #[.int .i64 0, .int .i64 0, .int .i64 0, .int .i64 0, .slice none 0 0] := (by repeat (first | (with_reducible assumption) | ((with_reducible refine Bk.new _ _ _ ?_); first | (with_reducible rfl) | (simp; done)) | (with_reducible refine Bk.alloc ?_ _) | (with_reducible refine Bk.drew ?_) | (with_reducible refine Bk.drewN ?_ _) | ((with_reducible refine Bk.far ?_ ?_ _); rotate_left; focus (first | (simp; done) | (simp; omega))) | (with_reducible refine Bk.below ?_ (by with_reducible assumption)))); obtain ⟨kcO1, kfO1, kaO1, kgO1, klO1⟩ := kO1.rules
      go_wp2_with fail
      clear kcC1 kfC1 kaC1 kgC1 kcO1 kfO1 kaO1 kgO1
      go_loopw [6] (fun i wr => ∃ (k : Nat), k ≤ n ∧ i = .int .i64 k ∧ Bk wr (w.heap.size) 28 #[.int .i64 s.r.x0, .int .i64 s.r.y0, .int .i64 s.r.x1, .int .i64 s.r.y1, .slice s.A s.n s.c] ∧ Bk wr (w.heap.size + 1) 28 #[.int .i64 0, .int .i64 0, .int .i64 0, .int .i64 0, .slice none 0 0] ∧ Below w.heap.size w wr ∧ Hid (∀ j (hj : j < l.length), j < k → vBm l[j] = true)) (fun i _ => n - (intOf i).toNat)
      case atStart => exact ⟨0, Nat.zero_le _, rfl, kC1, kO1, (by repeat (first | (with_reducible exact Below.refl _ _) | (with_reducible refine balloc ?_ _) | (with_reducible refine Below.drew ?_) | (with_reducible refine bdrewN ?_ _) | ((with_reducible refine bset ?_ ?_ _); rotate_left; focus (first | (with_reducible exact Nat.le_refl _) | (simp; done) | (simp; omega) | omega)) | (with_reducible refine bstep (by with_reducible assumption) ?_))), fun j hj h => by omega⟩
      case round =>
        obtain ⟨k, hk, rfl, jC, jO, hbw, HN⟩ := hrel
        obtain ⟨kcC, kfC, kaC, kgC, klC⟩ := jC.rules
        obtain ⟨kcO, kfO, kaO, kgO, klO⟩ := jO.rules
        by_cases hlt : k < n
        · have hkl : k < l.length := by have := Hn.out; omega
          obtain ⟨gb, ob, rfl, hg, d0, d1, d2, d3, d4⟩ := rdb (HR.out.below hbw) hkl
          obtain ⟨b, Hb⟩ : ∃ b, Hid (l[k] = b) := ⟨l[k], rfl⟩
          rw [Hb.out] at d0 d1 d2 d3 d4
          have hmem : b ∈ l := by rw [← Hb.out]; exact List.getElem_mem hkl
          have HBO : Hid (b.ok w) := HO.out b hmem
          have hbsz := HSZ.out b hmem
          have i0 : (0 : Int) ≤ (k : Int) := by omega
          have i1 : (k : Int) < (n : Int) := by omega
          cases hvb : bmValid b.r b.l with
          | true =>
            have Hvb := Lib.hid hvb
            have HN' : Hid (∀ j (hj : j < l.length), j < k + 1 → vBm l[j] = true) := fun j hj h => by
              by_cases e : j = k
              · subst e; rw [Hb.out]; exact Hvb.out
              · exact HN.out j hj (by omega)
            clear hvb HN hmem
            go_wp2_with fail
            refine (rbvalid_any b.r b.A b.n b.c b.l _ (HBO.out.rd.below (by repeat (first | (with_reducible exact Below.refl _ _) | (with_reducible refine balloc ?_ _) | (with_reducible refine Below.drew ?_) | (with_reducible refine bdrewN ?_ _) | ((with_reducible refine bset ?_ ?_ _); rotate_left; focus (first | (with_reducible exact Nat.le_refl _) | (simp; done) | (simp; omega) | omega)) | (with_reducible refine bstep (by with_reducible assumption) ?_)))) HBO.out.ln hbsz true Hvb).mono ?_
            rintro e w9 ⟨rfl, hb9⟩
            have iC := jC.below hb9
            have iO := jO.below hb9
            have iB : Below w.heap.size w w9 := bstep hb9 hbw
            clear d0 d1 d2 d3 d4
            go_wp2
            go_roundw
            case rel => exact ⟨k + 1, by omega, by go_num, iC, iO, iB, HN'⟩
            case measure => simp [intOf]; omega
          | false =>
            have Hvb := Lib.hid hvb
            clear hvb hmem kcC kfC kaC kgC kcO kfO kaO kgO
            go_wp2_with fail
            refine (rbvalid_any b.r b.A b.n b.c b.l _ (HBO.out.rd.below (by repeat (first | (with_reducible exact Below.refl _ _) | (with_reducible refine balloc ?_ _) | (with_reducible refine Below.drew ?_) | (with_reducible refine bdrewN ?_ _) | ((with_reducible refine bset ?_ ?_ _); rotate_left; focus (first | (with_reducible exact Nat.le_refl _) | (simp; done) | (simp; omega) | omega)) | (with_reducible refine bstep (by with_reducible assumption) ?_)))) HBO.out.ln hbsz false Hvb).mono ?_
            rintro e w9 ⟨rfl, hb9⟩
            have iO := jO.below hb9
            have iB : Below w.heap.size w w9 := bstep hb9 hbw
            clear d0 d1 d2 d3 d4
            obtain ⟨kcO, kfO, kaO, kgO, klO⟩ := iO.rules
            go_wp2
            refine bodyPost_ret (v := _) ?_ rfl (RetBE.no 15 (by repeat (first | (with_reducible exact Below.refl _ _) | (with_reducible refine balloc ?_ _) | (with_reducible refine Below.drew ?_) | (with_reducible refine bdrewN ?_ _) | ((with_reducible refine bset ?_ ?_ _); rotate_left; focus (first | (with_reducible exact Nat.le_refl _) | (simp; done) | (simp; omega) | omega)) | (with_reducible refine bstep (by with_reducible assumption) ?_))))
            simp [results, Try.results32, go_sem, kcO]
        · obtain rfl : n = k := by omega
          have : l.all vBm = true := List.all_eq_true.2 fun b hb => by
            obtain ⟨j, hj, rfl⟩ := List.mem_iff_getElem.1 hb
            exact HN.out j hj (by have := Hn.out; omega)
          rw [Hvl.out] at this; cases this
  | true =>
    have e1 : pasR s l = s.r := by unfold pasR; rw [hp]; rfl
    obtain ⟨g0, Hg0⟩ : ∃ g, Hid (atL zP s.r s.l = g) := ⟨_, rfl⟩
    obtain ⟨g, Hg⟩ : ∃ g, Hid (pstG l g0 = g) := ⟨_, rfl⟩
    have e2 : pasL s l = pixL g s.r := by unfold pasL; rw [hp, Hg0.out, Hg.out]; rfl
    have e3 : pasE s l = 0 := by unfold pasE; rw [hp]; rfl
    have hv1 : vBm s = true := by unfold pasB at hp; simp at hp; exact hp.1
    have Hvl : Hid (l.all vBm = true) := by unfold Hid; unfold pasB at hp; simp at hp; simpa using hp.2
    have Hvs : Hid (bmValid s.r s.l = true) := hv1
    obtain ⟨hsc, hsl, _, _⟩ := valid_cn hv1
    have HSN : Hid ((s.n : Int) = areaR s.r) := by unfold Hid; rw [← HS.out.ln]; exact hsl
    have hcb := canon_bd s.r
    rw [hsc] at hcb
    obtain ⟨⟨bx0, bx1, bx2⟩, ⟨by0, by1, by2⟩⟩ := hcb
    obtain ⟨wd, hwd⟩ : ∃ n : Nat, s.r.x1 - s.r.x0 = (n : Int) := ⟨(s.r.x1 - s.r.x0).toNat, by omega⟩
    obtain ⟨ht, hht⟩ : ∃ n : Nat, s.r.y1 - s.r.y0 = (n : Int) := ⟨(s.r.y1 - s.r.y0).toNat, by omega⟩
    have hPL : pixL g s.r = madeL g s.r.x0 s.r.y0 wd ht := by unfold pixL; rw [hwd, hht, Int.toNat_natCast, Int.toNat_natCast]
    rw [e1, e2, e3, hPL]
    have hw1 : s.r.x1 ≤ s.r.x0 + wd ∧ s.r.x0 + wd ≤ s.r.x1 := by omega
    have hh1 : s.r.y1 ≤ s.r.y0 + ht ∧ s.r.y0 + ht ≤ s.r.y1 := by omega
    have hwl : wd ≤ 8192 := by omega
    have hhl : ht ≤ 8192 := by omega
    clear e1 e2 e3 hp hv1 hsc hsl hwd hht hPL
    go_enter Try.func32, Try.ntmps32
    go_wp2_with fail
    refine (rbvalid_any s.r s.A s.n s.c s.l _ (HS.out.rd.below (by repeat (first | (with_reducible exact Below.refl _ _) | (with_reducible refine balloc ?_ _) | (with_reducible refine Below.drew ?_) | (with_reducible refine bdrewN ?_ _) | ((with_reducible refine bset ?_ ?_ _); rotate_left; focus (first | (with_reducible exact Nat.le_refl _) | (simp; done) | (simp; omega) | omega)) | (with_reducible refine bstep (by with_reducible assumption) ?_)))) HS.out.ln hsn true Hvs).mono ?_
    rintro e w1 ⟨rfl, hb1⟩
    have kC1 : Bk w1 (w.heap.size) 28 #[.int .i64 s.r.x0, .int .i64 s.r.y0, .int .i64 s.r.x1, .int .i64 s.r.y1, .slice s.A s.n s.c] := (by repeat (first | (with_reducible assumption) | ((with_reducible refine Bk.new _ _ _ ?_); first | (with_reducible rfl) | (simp; done)) | (with_reducible refine Bk.alloc ?_ _) | (with_reducible refine Bk.drew ?_) | (with_reducible refine Bk.drewN ?_ _) | ((with_reducible refine Bk.far ?_ ?_ _); rotate_left; focus (first | (simp; done) | (simp; omega))) | (with_reducible refine Bk.below ?_ (by with_reducible assumption)))); obtain ⟨kcC1, kfC1, kaC1, kgC1, klC1⟩ := kC1.rules; have kO1 : Bk w1 (w.heap.size + 1) 28 #[.int .i64 0, .int .i64 0, .int .i64 0, .int .i64 0, .slice none 0 0] := (by repeat (first | (with_reducible assumption) | ((with_reducible refine Bk.new _ _ _ ?_); first | (with_reducible rfl) | (simp; done)) | (with_reducible refine Bk.alloc ?_ _) | (with_reducible refine Bk.drew ?_) | (with_reducible refine Bk.drewN ?_ _) | ((with_reducible refine Bk.far ?_ ?_ _); rotate_left; focus (first | (simp; done) | (simp; omega))) | (with_reducible refine Bk.below ?_ (by with_reducible assumption)))); obtain ⟨kcO1, kfO1, kaO1, kgO1, klO1⟩ := kO1.rules
    go_wp2_with fail
    clear kcC1 kfC1 kaC1 kgC1 kcO1 kfO1 kaO1 kgO1
    go_loopw [6] (fun i wr => ∃ (k : Nat), k ≤ n ∧ i = .int .i64 k ∧ Bk wr (w.heap.size) 28 #[.int .i64 s.r.x0, .int .i64 s.r.y0, .int .i64 s.r.x1, .int .i64 s.r.y1, .slice s.A s.n s.c] ∧ Bk wr (w.heap.size + 1) 28 #[.int .i64 0, .int .i64 0, .int .i64 0, .int .i64 0, .slice none 0 0] ∧ Below w.heap.size w wr ∧ Hid (∀ j (hj : j < l.length), j < k → vBm l[j] = true)) (fun i _ => n - (intOf i).toNat)
    case atStart => exact ⟨0, Nat.zero_le _, rfl, kC1, kO1, (by repeat (first | (with_reducible exact Below.refl _ _) | (with_reducible refine balloc ?_ _) | (with_reducible refine Below.drew ?_) | (with_reducible refine bdrewN ?_ _) | ((with_reducible refine bset ?_ ?_ _); rotate_left; focus (first | (with_reducible exact Nat.le_refl _) | (simp; done) | (simp; omega) | omega)) | (with_reducible refine bstep (by with_reducible assumption) ?_))), fun j hj h => by omega⟩
    case round =>
      obtain ⟨k, hk, rfl, jC, jO, hbw, HN⟩ := hrel
      obtain ⟨kcC, kfC, kaC, kgC, klC⟩ := jC.rules
      obtain ⟨kcO, kfO, kaO, kgO, klO⟩ := jO.rules
      by_cases hlt : k < n
      · have hkl : k < l.length := by have := Hn.out; omega
        obtain ⟨gb, ob, rfl, hg, d0, d1, d2, d3, d4⟩ := rdb (HR.out.below hbw) hkl
        obtain ⟨b, Hb⟩ : ∃ b, Hid (l[k] = b) := ⟨l[k], rfl⟩
        rw [Hb.out] at d0 d1 d2 d3 d4
        have hmem : b ∈ l := by rw [← Hb.out]; exact List.getElem_mem hkl
        have HBO : Hid (b.ok w) := HO.out b hmem
        have hbsz := HSZ.out b hmem
        have i0 : (0 : Int) ≤ (k : Int) := by omega
        have i1 : (k : Int) < (n : Int) := by omega
        cases hvb : bmValid b.r b.l with
        | true =>
          have Hvb := Lib.hid hvb
          have HN' : Hid (∀ j (hj : j < l.length), j < k + 1 → vBm l[j] = true) := fun j hj h => by
            by_cases e : j = k
            · subst e; rw [Hb.out]; exact Hvb.out
            · exact HN.out j hj (by omega)
          clear hvb HN hmem
          go_wp2_with fail
          refine (rbvalid_any b.r b.A b.n b.c b.l _ (HBO.out.rd.below (by repeat (first | (with_reducible exact Below.refl _ _) | (with_reducible refine balloc ?_ _) | (with_reducible refine Below.drew ?_) | (with_reducible refine bdrewN ?_ _) | ((with_reducible refine bset ?_ ?_ _); rotate_left; focus (first | (with_reducible exact Nat.le_refl _) | (simp; done) | (simp; omega) | omega)) | (with_reducible refine bstep (by with_reducible assumption) ?_)))) HBO.out.ln hbsz true Hvb).mono ?_
          rintro e w9 ⟨rfl, hb9⟩
          have iC := jC.below hb9
          have iO := jO.below hb9
          have iB : Below w.heap.size w w9 := bstep hb9 hbw
          clear d0 d1 d2 d3 d4
          go_wp2
          go_roundw
          case rel => exact ⟨k + 1, by omega, by go_num, iC, iO, iB, HN'⟩
          case measure => simp [intOf]; omega
        | false =>
          have := List.all_eq_true.1 Hvl.out b hmem
          unfold vBm at this
          rw [hvb] at this; cases this
      · obtain rfl : n = k := by omega
        obtain ⟨wa, rfl⟩ : ∃ wa : World, wa = wr := ⟨_, rfl⟩
        clear HN
        have sza : w.heap.size + 1 < wa.heap.size := jO.lt
        have aC := jC.alloc (.cells #[.int .i64 s.r.x0, .int .i64 s.r.y0, .int .i64 s.r.x1, .int .i64 s.r.y1, .slice none 0 0] 28)
        have aO := jO.alloc (.cells #[.int .i64 s.r.x0, .int .i64 s.r.y0, .int .i64 s.r.x1, .int .i64 s.r.y1, .slice none 0 0] 28)
        have aG : Bk (wa.alloc (.cells #[.int .i64 s.r.x0, .int .i64 s.r.y0, .int .i64 s.r.x1, .int .i64 s.r.y1, .slice none 0 0] 28)) (wa.heap.size) 28 #[.int .i64 s.r.x0, .int .i64 s.r.y0, .int .i64 s.r.x1, .int .i64 s.r.y1, .slice none 0 0] := Bk.new _ _ _ rfl
        have aB : Below w.heap.size w (wa.alloc (.cells #[.int .i64 s.r.x0, .int .i64 s.r.y0, .int .i64 s.r.x1, .int .i64 s.r.y1, .slice none 0 0] 28)) := balloc hbw _
        clear jC jO
        go_wp2_with fail
        clear kcC kfC kaC kgC kcO kfO kaO kgO
        go_loopw [8] (fun i wr => ∃ (j : Nat) (v : Value), j ≤ ht ∧ i = .int .i64 (s.r.y0 + j) ∧ Bk wr (w.heap.size) 28 #[.int .i64 s.r.x0, .int .i64 s.r.y0, .int .i64 s.r.x1, .int .i64 s.r.y1, .slice s.A s.n s.c] ∧ Bk wr (w.heap.size + 1) 28 #[.int .i64 0, .int .i64 0, .int .i64 0, .int .i64 0, .slice none 0 0] ∧ Bk wr (wa.heap.size) 28 #[.int .i64 s.r.x0, .int .i64 s.r.y0, .int .i64 s.r.x1, .int .i64 s.r.y1, v] ∧ OwnL encP 25 4 wr w.heap.size v (madeL g s.r.x0 s.r.y0 wd j) ∧ Below w.heap.size w wr) (fun i _ => (s.r.y1 - intOf i).toNat)
        case atStart => exact ⟨0, _, Nat.zero_le _, by simp, aC, aO, aG, OwnL.nil _ _, aB⟩
        case round =>
          obtain ⟨j, v, hj, rfl, jC, jO, jG, ho, hbw⟩ := hrel
          obtain ⟨kcC, kfC, kaC, kgC, klC⟩ := jC.rules
          obtain ⟨kcO, kfO, kaO, kgO, klO⟩ := jO.rules
          obtain ⟨kcG, kfG, kaG, kgG, klG⟩ := jG.rules
          by_cases hlt : s.r.y0 + j < s.r.y1
          · go_wp2_with fail
            clear kcC kfC kaC kgC kcO kfO kaO kgO kcG kfG kaG kgG
            go_loopw [9] (fun i wr => ∃ (k : Nat) (u : Value), k ≤ wd ∧ i = .int .i64 (s.r.x0 + k) ∧ Bk wr (w.heap.size) 28 #[.int .i64 s.r.x0, .int .i64 s.r.y0, .int .i64 s.r.x1, .int .i64 s.r.y1, .slice s.A s.n s.c] ∧ Bk wr (w.heap.size + 1) 28 #[.int .i64 0, .int .i64 0, .int .i64 0, .int .i64 0, .slice none 0 0] ∧ Bk wr (wa.heap.size) 28 #[.int .i64 s.r.x0, .int .i64 s.r.y0, .int .i64 s.r.x1, .int .i64 s.r.y1, u] ∧ OwnL encP 25 4 wr w.heap.size u (madeL g s.r.x0 s.r.y0 wd j ++ rowL g s.r.x0 (s.r.y0 + j) k) ∧ Below w.heap.size w wr) (fun i _ => (s.r.x1 - intOf i).toNat)
            case atStart => exact ⟨0, v, Nat.zero_le _, by simp, jC, jO, jG, by simpa [rowL] using ho, hbw⟩
            case round =>
              clear jC jO jG ho hbw
              obtain ⟨k, u, hk, rfl, jC, jO, jG, ho, hbw⟩ := hrel
              obtain ⟨kcC, kfC, kaC, kgC, klC⟩ := jC.rules
              obtain ⟨kcO, kfO, kaO, kgO, klO⟩ := jO.rules
              obtain ⟨kcG, kfG, kaG, kgG, klG⟩ := jG.rules
              by_cases hlx : s.r.x0 + k < s.r.x1
              · obtain ⟨p0, Hp0⟩ : ∃ p, Hid (atL zP s.r s.l (s.r.x0 + k) (s.r.y0 + j) = p) := ⟨_, rfl⟩
                obtain ⟨pg, Hpg⟩ : ∃ p, Hid (g (s.r.x0 + k) (s.r.y0 + j) = p) := ⟨_, rfl⟩
                go_wp2_with fail
                refine (pixat_any s.r s.A s.n s.c s.l _ _ _ (HS.out.rd.below hbw) HS.out.ln hsn HSN.out p0 Hp0).mono ?_
                rintro e w1 ⟨rfl, hb1⟩
                clear kcC kfC kaC kgC kcO kfO kaO kgO kcG kfG kaG kgG
                have iC := (jC.below hb1).alloc (.cells #[.int .u8 p0.r, .int .u8 p0.g, .int .u8 p0.b, .int .u8 p0.a] 25)
                have iO := (jO.below hb1).alloc (.cells #[.int .u8 p0.r, .int .u8 p0.g, .int .u8 p0.b, .int .u8 p0.a] 25)
                have iG := (jG.below hb1).alloc (.cells #[.int .u8 p0.r, .int .u8 p0.g, .int .u8 p0.b, .int .u8 p0.a] 25)
                have iE : Bk (w1.alloc (.cells #[.int .u8 p0.r, .int .u8 p0.g, .int .u8 p0.b, .int .u8 p0.a] 25)) (w1.heap.size) 25 #[.int .u8 p0.r, .int .u8 p0.g, .int .u8 p0.b, .int .u8 p0.a] := Bk.new _ _ _ rfl
                have io := (ho.below hb1).alloc (.cells #[.int .u8 p0.r, .int .u8 p0.g, .int .u8 p0.b, .int .u8 p0.a] 25)
                have iB : Below w.heap.size w (w1.alloc (.cells #[.int .u8 p0.r, .int .u8 p0.g, .int .u8 p0.b, .int .u8 p0.a] 25)) := balloc (bstep hb1 hbw) _
                have sE : wa.heap.size < w1.heap.size := (jG.below hb1).lt
                have HU : Hid (some w1.heap.size ≠ u.ownBlock) := fun h => by
                  have := (World.ownsRow.lt (ho.below hb1) _ h.symm).2
                  omega
                clear jC jO jG ho hbw hb1
                go_wp2_with fail
                go_loopw [11] (fun i wr => ∃ (h : Nat) (p : Px), h ≤ n ∧ i = .int .i64 h ∧ Bk wr (w.heap.size) 28 #[.int .i64 s.r.x0, .int .i64 s.r.y0, .int .i64 s.r.x1, .int .i64 s.r.y1, .slice s.A s.n s.c] ∧ Bk wr (w.heap.size + 1) 28 #[.int .i64 0, .int .i64 0, .int .i64 0, .int .i64 0, .slice none 0 0] ∧ Bk wr (wa.heap.size) 28 #[.int .i64 s.r.x0, .int .i64 s.r.y0, .int .i64 s.r.x1, .int .i64 s.r.y1, u] ∧ Bk wr (w1.heap.size) 25 #[.int .u8 p.r, .int .u8 p.g, .int .u8 p.b, .int .u8 p.a] ∧ OwnL encP 25 4 wr w.heap.size u (madeL g s.r.x0 s.r.y0 wd j ++ rowL g s.r.x0 (s.r.y0 + j) k) ∧ Hid (pstG (l.take h) g0 (s.r.x0 + k) (s.r.y0 + j) = p) ∧ Below w.heap.size w wr) (fun i _ => n - (intOf i).toNat)
                case atStart => exact ⟨0, p0, Nat.zero_le _, rfl, iC, iO, iG, iE, io, by unfold Hid; rw [← Hp0.out, ← Hg0.out]; rfl, iB⟩
                case round =>
                  clear iC iO iG iE io iB
                  obtain ⟨h, p, hh, rfl, jC, jO, jG, jE, ho, HP, hbw⟩ := hrel
                  obtain ⟨kcC, kfC, kaC, kgC, klC⟩ := jC.rules
                  obtain ⟨kcO, kfO, kaO, kgO, klO⟩ := jO.rules
                  obtain ⟨kcG, kfG, kaG, kgG, klG⟩ := jG.rules
                  obtain ⟨kcE, kfE, kaE, kgE, klE⟩ := jE.rules
                  by_cases hlh : h < n
                  · have hkl : h < l.length := by have := Hn.out; omega
                    obtain ⟨gb, ob, hA, hg, d0, d1, d2, d3, d4⟩ := rdb (HR.out.below hbw) hkl
                    obtain rfl : A = some ⟨gb, ob, none⟩ := hA
                    obtain ⟨b, Hb⟩ : ∃ b, Hid (l[h] = b) := ⟨l[h], rfl⟩
                    rw [Hb.out] at d0 d1 d2 d3 d4
                    have hmem : b ∈ l := by rw [← Hb.out]; exact List.getElem_mem hkl
                    have HBO : Hid (b.ok w) := HO.out b hmem
                    have hbsz := HSZ.out b hmem
                    have HBV : Hid ((b.n : Int) = areaR b.r) := by
                      unfold Hid; rw [← HBO.out.ln]; exact (valid_cn (List.all_eq_true.1 Hvl.out b hmem)).2.1
                    have i0 : (0 : Int) ≤ (h : Int) := by omega
                    have i1 : (h : Int) < (n : Int) := by omega
                    have HNX : Hid (pstG (l.take (h + 1)) g0 (s.r.x0 + k) (s.r.y0 + j) = pstF b (pstG (l.take h) g0) (s.r.x0 + k) (s.r.y0 + j)) := by
                      unfold Hid; rw [List.take_succ_eq_append_getElem hkl, pstG_snoc, Hb.out]
                    clear hmem
                    cases hcb : containsB b.r (s.r.x0 + k) (s.r.y0 + j) with
                    | false =>
                      have Hcb : Hid (containsB ⟨b.r.x0, b.r.y0, b.r.x1, b.r.y1⟩ (s.r.x0 + k) (s.r.y0 + j) = false) := hcb
                      have HP' : Hid (pstG (l.take (h + 1)) g0 (s.r.x0 + k) (s.r.y0 + j) = p) := by
                        unfold Hid; rw [HNX.out]; unfold pstF; rw [hcb]; exact HP.out
                      clear hcb HNX HP
                      go_wp2_with fail
                      refine (rcontains_q _ _ _ _ _ _ false Hcb _).mono ?_
                      rintro e w9 ⟨rfl, hb9⟩
                      clear d0 d1 d2 d3 d4
                      have iC := jC.below hb9
                      have iO := jO.below hb9
                      have iG := jG.below hb9
                      have iE := jE.below hb9
                      have io := ho.below hb9
                      have iB : Below w.heap.size w w9 := bstep hb9 hbw
                      go_wp2
                      go_roundw
                      case rel => exact ⟨h + 1, p, by omega, by go_num, iC, iO, iG, iE, io, HP', iB⟩
                      case measure => simp [intOf]; omega
                    | true =>
                      have Hcb : Hid (containsB ⟨b.r.x0, b.r.y0, b.r.x1, b.r.y1⟩ (s.r.x0 + k) (s.r.y0 + j) = true) := hcb
                      obtain ⟨p', Hp'⟩ : ∃ p, Hid (atL zP b.r b.l (s.r.x0 + k) (s.r.y0 + j) = p) := ⟨_, rfl⟩
                      have HP' : Hid (pstG (l.take (h + 1)) g0 (s.r.x0 + k) (s.r.y0 + j) = p') := by
                        unfold Hid; rw [HNX.out]; unfold pstF; rw [hcb, if_pos rfl]; exact Hp'.out
                      clear hcb HNX HP
                      go_wp2_with fail
                      refine (rcontains_q _ _ _ _ _ _ true Hcb _).mono ?_
                      rintro e w8 ⟨rfl, hb8⟩
                      have hB8 : Below w.heap.size w w8 := bstep hb8 hbw
                      obtain ⟨gb', ob', hA', hg', f0, f1, f2, f3, f4⟩ := rdb (HR.out.below hB8) hkl
                      obtain ⟨rfl, rfl⟩ : gb = gb' ∧ ob = ob' := by injection hA' with h; injection h with h1 h2; exact ⟨h1, h2⟩
                      rw [Hb.out] at f0 f1 f2 f3 f4
                      clear d0 d1 d2 d3 d4 hA'
                      go_wp2_with fail
                      refine (pixat_any b.r b.A b.n b.c b.l _ _ _ (HBO.out.rd.below hB8) HBO.out.ln hbsz HBV.out p' Hp').mono ?_
                      rintro e w9 ⟨rfl, hb9⟩
                      clear f0 f1 f2 f3 f4
                      clear kcC kfC kaC kgC kcO kfO kaO kgO kcG kfG kaG kgG kcE kfE kaE kgE
                      have iC := (jC.below hb8).below hb9
                      have iO := (jO.below hb8).below hb9
                      have iG := (jG.below hb8).below hb9
                      have iE := (jE.below hb8).below hb9
                      have io := (ho.below hb8).below hb9
                      have iB : Below w.heap.size w w9 := bstep hb9 hB8
                      obtain ⟨kcE, kfE, kaE, kgE, klE⟩ := iE.rules
                      have xo := ((((io.setOut HU.out 0 (.int .u8 p'.r)).setOut HU.out 1 (.int .u8 p'.g)).setOut HU.out 2 (.int .u8 p'.b)).setOut HU.out 3 (.int .u8 p'.a))
                      have xE := ((((iE.set 0 (.int .u8 p'.r)).set 1 (.int .u8 p'.g)).set 2 (.int .u8 p'.b)).set 3 (.int .u8 p'.a))
                      have xC := ((((iC.far (p := ⟨w1.heap.size, 0, none⟩) (show w.heap.size ≠ w1.heap.size by omega) (.int .u8 p'.r)).far (p := ⟨w1.heap.size, 1, none⟩) (show w.heap.size ≠ w1.heap.size by omega) (.int .u8 p'.g)).far (p := ⟨w1.heap.size, 2, none⟩) (show w.heap.size ≠ w1.heap.size by omega) (.int .u8 p'.b)).far (p := ⟨w1.heap.size, 3, none⟩) (show w.heap.size ≠ w1.heap.size by omega) (.int .u8 p'.a))
                      have xO := ((((iO.far (p := ⟨w1.heap.size, 0, none⟩) (show w.heap.size + 1 ≠ w1.heap.size by omega) (.int .u8 p'.r)).far (p := ⟨w1.heap.size, 1, none⟩) (show w.heap.size + 1 ≠ w1.heap.size by omega) (.int .u8 p'.g)).far (p := ⟨w1.heap.size, 2, none⟩) (show w.heap.size + 1 ≠ w1.heap.size by omega) (.int .u8 p'.b)).far (p := ⟨w1.heap.size, 3, none⟩) (show w.heap.size + 1 ≠ w1.heap.size by omega) (.int .u8 p'.a))
                      have xG := ((((iG.far (p := ⟨w1.heap.size, 0, none⟩) (show wa.heap.size ≠ w1.heap.size by omega) (.int .u8 p'.r)).far (p := ⟨w1.heap.size, 1, none⟩) (show wa.heap.size ≠ w1.heap.size by omega) (.int .u8 p'.g)).far (p := ⟨w1.heap.size, 2, none⟩) (show wa.heap.size ≠ w1.heap.size by omega) (.int .u8 p'.b)).far (p := ⟨w1.heap.size, 3, none⟩) (show wa.heap.size ≠ w1.heap.size by omega) (.int .u8 p'.a))
                      have xB := (bset (bset (bset (bset iB (p := ⟨w1.heap.size, 0, none⟩) (by show _ ≤ w1.heap.size; omega) (.int .u8 p'.r)) (p := ⟨w1.heap.size, 1, none⟩) (by show _ ≤ w1.heap.size; omega) (.int .u8 p'.g)) (p := ⟨w1.heap.size, 2, none⟩) (by show _ ≤ w1.heap.size; omega) (.int .u8 p'.b)) (p := ⟨w1.heap.size, 3, none⟩) (by show _ ≤ w1.heap.size; omega) (.int .u8 p'.a))
                      go_wp2
                      go_roundw
                      case rel => exact ⟨h + 1, p', by omega, by go_num, xC, xO, xG, xE, xo, HP', xB⟩
                      case measure => simp [intOf]; omega
                  · obtain rfl : n = h := by omega
                    have HE : Hid (p = pg) := by
                      unfold Hid; rw [← HP.out, ← Hpg.out, ← Hg.out, List.take_of_length_le (by have := Hn.out; omega)]
                    obtain rfl : p = pg := HE.out
                    have hlen : (madeL g s.r.x0 s.r.y0 wd j ++ rowL g s.r.x0 (s.r.y0 + j) k).length ≤ 4294967296 := by
                      rw [List.length_append, madeL_len, rowL_len]
                      have : j * wd ≤ 8192 * 8192 := Nat.mul_le_mul (by omega) hwl
                      omega
                    have hszw := hbw.size
                    have oA := ho.alloc (.cells #[.int .u8 p.r, .int .u8 p.g, .int .u8 p.b, .int .u8 p.a] 25)
                    have nC := jC.alloc (.cells #[.int .u8 p.r, .int .u8 p.g, .int .u8 p.b, .int .u8 p.a] 25)
                    have nO := jO.alloc (.cells #[.int .u8 p.r, .int .u8 p.g, .int .u8 p.b, .int .u8 p.a] 25)
                    have nG := jG.alloc (.cells #[.int .u8 p.r, .int .u8 p.g, .int .u8 p.b, .int .u8 p.a] 25)
                    have nB : Below w.heap.size w (wr.alloc (.cells #[.int .u8 p.r, .int .u8 p.g, .int .u8 p.b, .int .u8 p.a] 25)) := balloc hbw _
                    have hszn := nB.size
                    go_wp2_with (at_builtin; refine wpList_append_one encP_len encP_one 26 Try.infoPx rfl (by decide) (by decide) Try.underlying26 rfl _ _ rfl (w.heap.size) u _ rfl oA wr.heap.size p rfl (Bk.new _ _ _ rfl) rfl hlen hszn ?_; intro v5 w5 ho5 hg5 hv5x; obtain ⟨g5, c5, hv5, _⟩ := hv5x; generalize (madeL g s.r.x0 s.r.y0 wd j ++ rowL g s.r.x0 (s.r.y0 + j) k).length + 1 = n5 at hv5; subst hv5; have q5 := nG.grown hg5 (oA.neBk nG (by decide)); obtain ⟨kc5, kf5, ka5, kg5, kl5⟩ := q5.rules)
                    have q5 := nG.grown hg5 (oA.neBk nG (by decide))
                    have r5 := nC.grown hg5 (oA.neBk nC (by decide))
                    have t5 := nO.grown hg5 (oA.neBk nO (by decide))
                    have hB5 := below_grown oA hg5 nB (Nat.le_refl _)
                    have HL : Hid (madeL g s.r.x0 s.r.y0 wd j ++ rowL g s.r.x0 (s.r.y0 + j) k ++ [p] = madeL g s.r.x0 s.r.y0 wd j ++ rowL g s.r.x0 (s.r.y0 + j) (k + 1)) := by
                      unfold Hid; rw [rowL_succ, Hpg.out, List.append_assoc]
                    rw [HL.out] at ho5
                    have mG : Bk _ (wa.heap.size) 28 #[.int .i64 s.r.x0, .int .i64 s.r.y0, .int .i64 s.r.x1, .int .i64 s.r.y1, .slice (some ⟨g5, 0, none⟩) n5 c5] := q5.set 4 (.slice (some ⟨g5, 0, none⟩) n5 c5)
                    have mC := r5.far (p := ⟨wa.heap.size, 4, none⟩) (show w.heap.size ≠ wa.heap.size by omega) (.slice (some ⟨g5, 0, none⟩) n5 c5)
                    have mO := t5.far (p := ⟨wa.heap.size, 4, none⟩) (show w.heap.size + 1 ≠ wa.heap.size by omega) (.slice (some ⟨g5, 0, none⟩) n5 c5)
                    have ho6 := ho5.setFar q5 (by decide) 4 (.slice (some ⟨g5, 0, none⟩) n5 c5)
                    have hB6 := bset hB5 (p := ⟨wa.heap.size, 4, none⟩) (show w.heap.size ≤ wa.heap.size by omega) (.slice (some ⟨g5, 0, none⟩) n5 c5)
                    clear q5 r5 t5 hB5 ho5 hg5 oA nC nO nG nB jC jO jG jE ho hbw
                    go_roundw
                    case rel => exact ⟨k + 1, _, by omega, by rw [show s.r.x0 + (k : Int) + 1 = s.r.x0 + ((k + 1 : Nat) : Int) by omega], mC, mO, mG, ho6, hB6⟩
                    case measure => simp [intOf]; omega
              · obtain rfl : wd = k := by omega
                have hu' : OwnL encP 25 4 wr w.heap.size u (madeL g s.r.x0 s.r.y0 wd (j + 1)) := by rw [madeL_succ]; exact ho
                go_wp2
                go_roundw
                case rel => exact ⟨j + 1, u, by omega, by rw [show s.r.y0 + (j : Int) + 1 = s.r.y0 + ((j + 1 : Nat) : Int) by omega], jC, jO, jG, hu', hbw⟩
                case measure => simp [intOf]; omega
          · obtain rfl : ht = j := by omega
            obtain ⟨A0, c0, hv0, _, _⟩ := ho.form encP_len
            generalize (madeL g s.r.x0 s.r.y0 wd ht).length = n0 at hv0
            subst hv0
            have o1 := ho.setFar jO (by decide) 0 (.int .i64 s.r.x0)
            have m1 := jO.set 0 (.int .i64 s.r.x0)
            have o2 := o1.setFar m1 (by decide) 1 (.int .i64 s.r.y0)
            have m2 := m1.set 1 (.int .i64 s.r.y0)
            have o3 := o2.setFar m2 (by decide) 2 (.int .i64 s.r.x1)
            have m3 := m2.set 2 (.int .i64 s.r.x1)
            have o4 := o3.setFar m3 (by decide) 3 (.int .i64 s.r.y1)
            have m4 := m3.set 3 (.int .i64 s.r.y1)
            have o5 := o4.setFar m4 (by decide) 4 (.slice A0 n0 c0)
            clear o1 o2 o3 o4 m1 m2 m3 m4
            go_wp2
            refine bodyPost_ret (v := _) ?_ rfl ⟨_, rfl, o5, (by repeat (first | (with_reducible exact Below.refl _ _) | (with_reducible refine balloc ?_ _) | (with_reducible refine Below.drew ?_) | (with_reducible refine bdrewN ?_ _) | ((with_reducible refine bset ?_ ?_ _); rotate_left; focus (first | (with_reducible exact Nat.le_refl _) | (simp; done) | (simp; omega) | omega)) | (with_reducible refine bstep (by with_reducible assumption) ?_)))⟩
            simp [results, Try.results32, go_sem, kcO]
end Go.Proofs.Ytnefnnhnjmmebaa
