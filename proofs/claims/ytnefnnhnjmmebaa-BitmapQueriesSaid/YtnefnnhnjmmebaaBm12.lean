/-
  grisailleref30.Bytes; bytes as strings.
-/
import Derived.Test.YtnefnnhnjmmebaaBm7
import Derived.Test.YtnefnnhnjmmebaaBm5
import Derived.Laws.BytesArg
namespace Go.Proofs.Ytnefnnhnjmmebaa
open Go.RowKit
set_option linter.unusedSimpArgs false
set_option linter.unusedVariables false

/-- Bytes of an owned slice as a string. -/
theorem conv_own {w : World} {base : Nat} {v : Value} {l : List Int} (h : OwnL encB 5 1 w base v l) :
    (convert 39 9 v).run Try.prog w = .ok (.string (strOfNums l)) w := by
  have hf := h
  rcases h.2 with ⟨rfl, hn⟩ | ⟨g, cap, cur, rfl, hb, hg, hnc, hm, hs, ht⟩
  · obtain rfl : l = [] := List.eq_nil_of_length_eq_zero hn
    exact run_convert_bytes_nil w 39 5 Try.underlying39 Try.underlying5 0 0 9 Try.underlying9
  · refine run_convert_bytes_arg w 39 5 Try.underlying39 Try.underlying5 g 0 l.length cap l rfl (fun i hi => ?_) 9 Try.underlying9
    have h1 := World.ownsRow.cellAt hf i (by omega)
    rw [Nat.zero_add, h1]
    have := flat_at encB_len l i hi 0 (.int .u8 l[i]) rfl
    rw [Nat.mul_one, Nat.add_zero] at this
    rw [this, List.getD_eq_getElem?_getD, List.getElem?_eq_getElem hi]; rfl

set_option maxHeartbeats 1600000 in
theorem rbytes_any (r : Rc) (A : Option Addr) (n c : Nat) (l : List Px) (w : World) (hr : RdL encP 4 w A l) (hn : l.length = n) (hn2 : n ≤ 1000000) :
    Calls Try.prog 39 #[.agg #[.int .i64 r.x0, .int .i64 r.y0, .int .i64 r.x1, .int .i64 r.y1, .slice A n c]] w (RetY (if bmValid r l then bytesL l else []) w) := by
  have HR := Lib.hid hr
  have Hn := Lib.hid hn
  obtain ⟨v, Hv⟩ : ∃ v, Hid (bmValid r l = v) := ⟨_, rfl⟩
  rw [Hv.out]
  clear hr hn
  cases v with
  | false =>
    go_enter Try.func39, Try.ntmps39
    go_wp2_with fail
    refine (rbvalid_any r A n c l _ (HR.out.below (by repeat (first | (with_reducible exact Below.refl _ _) | (with_reducible refine balloc ?_ _) | (with_reducible refine Below.drew ?_) | (with_reducible refine bdrewN ?_ _) | ((with_reducible refine bset ?_ ?_ _); rotate_left; focus (first | (with_reducible exact Nat.le_refl _) | (simp; done) | (simp; omega) | omega)) | (with_reducible refine bstep (by with_reducible assumption) ?_)))) Hn.out (by omega) false Hv).mono ?_
    rintro e w1 ⟨rfl, hb1⟩
    have kO : Bk w1 (w.heap.size + 1) 5 #[] := (by repeat (first | (with_reducible assumption) | ((with_reducible refine Bk.new _ _ _ ?_); first | (with_reducible rfl) | (simp; done)) | (with_reducible refine Bk.alloc ?_ _) | (with_reducible refine Bk.drew ?_) | (with_reducible refine Bk.drewN ?_ _) | ((with_reducible refine Bk.far ?_ ?_ _); rotate_left; focus (first | (simp; done) | (simp; omega))) | (with_reducible refine Bk.below ?_ (by with_reducible assumption))))
    go_wp2
    go_ret
    exact ⟨_, rfl, OwnL.lit (l := []) encB_len kO (by omega) (by decide) rfl, (by repeat (first | (with_reducible exact Below.refl _ _) | (with_reducible refine balloc ?_ _) | (with_reducible refine Below.drew ?_) | (with_reducible refine bdrewN ?_ _) | ((with_reducible refine bset ?_ ?_ _); rotate_left; focus (first | (with_reducible exact Nat.le_refl _) | (simp; done) | (simp; omega) | omega)) | (with_reducible refine bstep (by with_reducible assumption) ?_)))⟩
  | true =>
    go_enter Try.func39, Try.ntmps39
    go_wp2_with fail
    refine (rbvalid_any r A n c l _ (HR.out.below (by repeat (first | (with_reducible exact Below.refl _ _) | (with_reducible refine balloc ?_ _) | (with_reducible refine Below.drew ?_) | (with_reducible refine bdrewN ?_ _) | ((with_reducible refine bset ?_ ?_ _); rotate_left; focus (first | (with_reducible exact Nat.le_refl _) | (simp; done) | (simp; omega) | omega)) | (with_reducible refine bstep (by with_reducible assumption) ?_)))) Hn.out (by omega) true Hv).mono ?_
    rintro e w1 ⟨rfl, hb1⟩
    have kB1 : Bk w1 (w.heap.size) 28 #[.int .i64 r.x0, .int .i64 r.y0, .int .i64 r.x1, .int .i64 r.y1, .slice A n c] := (by repeat (first | (with_reducible assumption) | ((with_reducible refine Bk.new _ _ _ ?_); first | (with_reducible rfl) | (simp; done)) | (with_reducible refine Bk.alloc ?_ _) | (with_reducible refine Bk.drew ?_) | (with_reducible refine Bk.drewN ?_ _) | ((with_reducible refine Bk.far ?_ ?_ _); rotate_left; focus (first | (simp; done) | (simp; omega))) | (with_reducible refine Bk.below ?_ (by with_reducible assumption)))); obtain ⟨kcB1, kfB1, kaB1, kgB1, klB1⟩ := kB1.rules
    have kO : Bk w1 (w.heap.size + 1) 5 #[] := (by repeat (first | (with_reducible assumption) | ((with_reducible refine Bk.new _ _ _ ?_); first | (with_reducible rfl) | (simp; done)) | (with_reducible refine Bk.alloc ?_ _) | (with_reducible refine Bk.drew ?_) | (with_reducible refine Bk.drewN ?_ _) | ((with_reducible refine Bk.far ?_ ?_ _); rotate_left; focus (first | (simp; done) | (simp; omega))) | (with_reducible refine Bk.below ?_ (by with_reducible assumption))))
    have hB1 : Below w.heap.size w w1 := (by repeat (first | (with_reducible exact Below.refl _ _) | (with_reducible refine balloc ?_ _) | (with_reducible refine Below.drew ?_) | (with_reducible refine bdrewN ?_ _) | ((with_reducible refine bset ?_ ?_ _); rotate_left; focus (first | (with_reducible exact Nat.le_refl _) | (simp; done) | (simp; omega) | omega)) | (with_reducible refine bstep (by with_reducible assumption) ?_)))
    go_wp2_with fail
    clear kcB1 kfB1 kaB1 kgB1
    go_loopw [3, 4] (fun u i wr => ∃ k : Nat, k ≤ n ∧ i = .int .i64 k ∧ OwnL encB 5 1 wr (w.heap.size + 1) u (bytesL (l.take k)) ∧ Bk wr w.heap.size 28 #[.int .i64 r.x0, .int .i64 r.y0, .int .i64 r.x1, .int .i64 r.y1, .slice A n c] ∧ Below w.heap.size w wr) (fun _ i _ => n - (intOf i).toNat)
    case atStart => exact ⟨0, Nat.zero_le _, rfl, OwnL.lit (l := []) encB_len kO (by omega) (by decide) rfl, kB1, hB1⟩
    case round =>
      obtain ⟨k, hk, rfl, hu, kB, hbw⟩ := hrel
      obtain ⟨kc, kf, ka, kg, kl⟩ := kB.rules
      by_cases hlt : k < n
      · have hkl : k < l.length := by have := Hn.out; omega
        obtain ⟨gb, ob, rfl, hg, hcA⟩ := rdp (HR.out.below hbw) hkl
        obtain ⟨p, Hp⟩ : ∃ s, Hid (l[k] = s) := ⟨l[k], rfl⟩
        rw [Hp.out] at hcA
        have QA := Lib.hid hcA
        have HT : Hid (bytesL (l.take k) ++ [p.r, p.g, p.b, p.a] = bytesL (l.take (k + 1))) := by
          unfold Hid; rw [List.take_succ_eq_append_getElem hkl, Hp.out, bytesL_snoc]
        have hfl : (bytesL (l.take k)).length + 4 ≤ 4294967296 := by rw [bytesL_len, List.length_take]; omega
        have i0 : (0 : Int) ≤ (k : Int) := by omega
        have i1 : (k : Int) < (n : Int) := by omega
        have hsz := hbw.size
        clear hcA
        go_wp2_with fail
        clear kc kf ka kg
        refine wp_region_gob 26 [(0, true), (1, true), (2, true), (3, true), (4, true), (5, true), (6, true), (7, true), (8, true), (9, true), (10, true), (11, true), (12, true), (13, true), (14, true), (15, true), (16, true), (17, true), (18, true), (19, true), (20, true), (21, true), (22, true), (23, true), (24, true), (25, false)] (by kernel_rfl) (by kernel_rfl) (fun c a d v w h => by cases d <;> exact h) ?_
        repeat (refine wpGo_pure (v := ?_) rfl rfl (fun w' hS => ?_) ?_; rotate_left; (· obtain ⟨q0, q1, q2, q3⟩ := QA.out; have qr0 := (hS.cell (p := ⟨gb, ob + k * 4, none⟩) hg).trans q0; have qr1 := (hS.cell (p := ⟨gb, ob + k * 4 + 1, none⟩) hg).trans q1; have qr2 := (hS.cell (p := ⟨gb, ob + k * 4 + 2, none⟩) hg).trans q2; have qr3 := (hS.cell (p := ⟨gb, ob + k * 4 + 3, none⟩) hg).trans q3; have jB := kB.below hS; obtain ⟨kc, kf, ka, kg, kl⟩ := jB.rules; go_simp; exact rfl); (try simp only [Act.put, List.setIfInBounds_toArray, List.set_cons_zero, List.set_cons_succ]))
        refine wpGo_eff rfl (fun K hK => ?_)
        go_simp
        refine hK.out _ _ (by repeat (first | (with_reducible exact Below.refl _ _) | (with_reducible refine balloc ?_ _) | (with_reducible refine Below.drew ?_) | (with_reducible refine bdrewN ?_ _) | ((with_reducible refine bset ?_ ?_ _); rotate_left; focus (first | (with_reducible exact Nat.le_refl _) | (simp; done) | (simp; omega) | omega)) | (with_reducible refine bstep (by with_reducible assumption) ?_))) (fun hS2 => ?_)
        clear hK K
        have hu1 := hu.drew.alloc (.cells #[.int .u8 p.r, .int .u8 p.g, .int .u8 p.b, .int .u8 p.a] 5)
        have kB2 := kB.drew.alloc (.cells #[.int .u8 p.r, .int .u8 p.g, .int .u8 p.b, .int .u8 p.a] 5)
        refine wpGo_nil ?_
        simp only [List.drop_succ_cons, List.drop_zero]
        go_wp2_with (at_builtin; refine wpList_append_list encB_len encB_one 39 Try.infoU8 rfl (by decide) (by decide) Try.underlying39 rfl _ _ rfl (w.heap.size + 1) _ _ rfl hu1 wr.heap.size 4 4 [p.r, p.g, p.b, p.a] rfl rfl (Bk.new _ _ _ (by simp)) rfl hfl (by simp; omega) ?_; intro v5 w5 ho5 hg5)
        have hB5 := below_grown hu1 hg5 (balloc hbw.drew _) (by omega)
        have kB5 := kB2.grown hg5 (hu1.neBk kB2 (by decide))
        rw [HT.out] at ho5
        clear hu1 hg5 hu HT Hp hkl
        go_wp2
        go_roundw
        case rel => exact ⟨k + 1, by omega, by go_num, ho5, kB5, hB5⟩
        case measure => simp [intOf]; omega
      · have HE : Hid (bytesL (l.take k) = bytesL l) := by unfold Hid; rw [List.take_of_length_le (by have := Hn.out; omega)]
        rw [HE.out] at hu
        go_wp2
        go_ret
        exact ⟨_, rfl, hu.mono (by omega), hbw⟩
end Go.Proofs.Ytnefnnhnjmmebaa
