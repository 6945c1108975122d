/-
  The walk of bitmap.Bytes; the example of chapter 30.
-/
import Derived.Test.YtnefnnhnjmmebaaBm4
import Derived.Test.YtnefnnhnjmmebaaPlB
import Derived.Test.YtnefnnhnjmmebaaOpen
namespace Go.Proofs.Ytnefnnhnjmmebaa
open Go.RowKit
set_option linter.unusedSimpArgs false
set_option linter.unusedVariables false

theorem Try.infoU8 : (Try.prog.info? 5).map (fun i => (i.zero, i.size, i.bytes)) = some (some (.int .u8 0), 1, 1) := by kernel_rfl
/-- The components of pixels. -/
def bytesL (l : List Px) : List Int := l.flatMap fun p => [p.r, p.g, p.b, p.a]
theorem bytesL_len (l : List Px) : (bytesL l).length = 4 * l.length := by
  unfold bytesL
  induction l with
  | nil => rfl
  | cons p l ih => rw [List.flatMap_cons, List.length_append, ih]; simp; omega
theorem bytesL_snoc (l : List Px) (p : Px) : bytesL (l ++ [p]) = bytesL l ++ [p.r, p.g, p.b, p.a] := by unfold bytesL; rw [List.flatMap_append]; simp
def RetY (l : List Int) (w : World) (e : Ending) (w' : World) : Prop := ∃ v, e = .returned v ∧ OwnL encB 5 1 w' w.heap.size v l ∧ Below w.heap.size w w'

set_option maxHeartbeats 1600000 in
theorem bytes_any (r : Rc) (A : Option Addr) (n c : Nat) (l : List Px) (w : World) (hr : RdL encP 4 w A l) (hn : l.length = n) (hn2 : n ≤ 1000000) :
    Calls Try.prog 38 #[.agg #[.int .i64 r.x0, .int .i64 r.y0, .int .i64 r.x1, .int .i64 r.y1, .slice A n c]] w (RetY (if bmValid r l then bytesL l else []) w) := by
  have HR := Lib.hid hr
  have Hn := Lib.hid hn
  obtain ⟨v, Hv⟩ : ∃ v, Hid (bmValid r l = v) := ⟨_, rfl⟩
  rw [Hv.out]
  clear hr hn
  cases v with
  | false =>
    go_enter Try.func38, Try.ntmps38
    go_wp2_with fail
    refine (bvalid_any r A n c l _ (HR.out.below (by repeat (first | (with_reducible exact Below.refl _ _) | (with_reducible refine balloc ?_ _) | (with_reducible refine Below.drew ?_) | (with_reducible refine bdrewN ?_ _) | ((with_reducible refine bset ?_ ?_ _); rotate_left; focus (first | (with_reducible exact Nat.le_refl _) | (simp; done) | (simp; omega) | omega)) | (with_reducible refine bstep (by with_reducible assumption) ?_)))) Hn.out (by omega) false Hv).mono ?_
    rintro e w1 ⟨rfl, hb1⟩
    go_wp2
    go_ret
    exact ⟨_, rfl, OwnL.nil _ _, (by repeat (first | (with_reducible exact Below.refl _ _) | (with_reducible refine balloc ?_ _) | (with_reducible refine Below.drew ?_) | (with_reducible refine bdrewN ?_ _) | ((with_reducible refine bset ?_ ?_ _); rotate_left; focus (first | (with_reducible exact Nat.le_refl _) | (simp; done) | (simp; omega) | omega)) | (with_reducible refine bstep (by with_reducible assumption) ?_)))⟩
  | true =>
    go_enter Try.func38, Try.ntmps38
    go_wp2_with fail
    refine (bvalid_any r A n c l _ (HR.out.below (by repeat (first | (with_reducible exact Below.refl _ _) | (with_reducible refine balloc ?_ _) | (with_reducible refine Below.drew ?_) | (with_reducible refine bdrewN ?_ _) | ((with_reducible refine bset ?_ ?_ _); rotate_left; focus (first | (with_reducible exact Nat.le_refl _) | (simp; done) | (simp; omega) | omega)) | (with_reducible refine bstep (by with_reducible assumption) ?_)))) Hn.out (by omega) true Hv).mono ?_
    rintro e w1 ⟨rfl, hb1⟩
    have kB1 : Bk w1 (w.heap.size) 28 #[.int .i64 r.x0, .int .i64 r.y0, .int .i64 r.x1, .int .i64 r.y1, .slice A n c] := (by repeat (first | (with_reducible assumption) | ((with_reducible refine Bk.new _ _ _ ?_); first | (with_reducible rfl) | (simp; done)) | (with_reducible refine Bk.alloc ?_ _) | (with_reducible refine Bk.drew ?_) | (with_reducible refine Bk.drewN ?_ _) | ((with_reducible refine Bk.far ?_ ?_ _); rotate_left; focus (first | (simp; done) | (simp; omega))) | (with_reducible refine Bk.below ?_ (by with_reducible assumption)))); obtain ⟨kcB1, kfB1, kaB1, kgB1, klB1⟩ := kB1.rules
    have hB1 : Below w.heap.size w w1 := (by repeat (first | (with_reducible exact Below.refl _ _) | (with_reducible refine balloc ?_ _) | (with_reducible refine Below.drew ?_) | (with_reducible refine bdrewN ?_ _) | ((with_reducible refine bset ?_ ?_ _); rotate_left; focus (first | (with_reducible exact Nat.le_refl _) | (simp; done) | (simp; omega) | omega)) | (with_reducible refine bstep (by with_reducible assumption) ?_)))
    go_wp2_with fail
    clear kcB1 kfB1 kaB1 kgB1
    go_loopw [3, 12] (fun u i wr => ∃ k : Nat, k ≤ n ∧ i = .int .i64 k ∧ OwnL encB 5 1 wr w.heap.size u (bytesL (l.take k)) ∧ Below w.heap.size w wr) (fun _ i _ => n - (intOf i).toNat)
    case atStart => exact ⟨0, Nat.zero_le _, rfl, OwnL.nil _ _, hB1⟩
    case round =>
      obtain ⟨k, hk, rfl, hu, hbw⟩ := hrel
      by_cases hlt : k < n
      · have hkl : k < l.length := by have := Hn.out; omega
        obtain ⟨gb, ob, rfl, hg, hcA⟩ := rdp (HR.out.below hbw) hkl
        obtain ⟨p, Hp⟩ : ∃ s, Hid (l[k] = s) := ⟨l[k], rfl⟩
        rw [Hp.out] at hcA
        have HT : Hid (bytesL (l.take k) ++ [p.r, p.g, p.b, p.a] = bytesL (l.take (k + 1))) := by
          unfold Hid; rw [List.take_succ_eq_append_getElem hkl, Hp.out, bytesL_snoc]
        have hfl : (bytesL (l.take k)).length + 4 ≤ 4294967296 := by rw [bytesL_len, List.length_take]; omega
        obtain ⟨c0, c1, c2, c3⟩ := hcA
        have i0 : (0 : Int) ≤ (k : Int) := by omega
        have hu1 := (hu.alloc (.cells #[.int .u8 p.r, .int .u8 p.g, .int .u8 p.b, .int .u8 p.a] 25)).alloc (.cells #[.int .u8 p.r, .int .u8 p.g, .int .u8 p.b, .int .u8 p.a] 5)
        have hsz := hbw.size
        go_wp2_with (at_builtin; refine wpList_append_list encB_len encB_one 39 Try.infoU8 rfl (by decide) (by decide) Try.underlying39 rfl _ _ rfl w.heap.size _ _ rfl hu1 (wr.heap.size + 1) 4 4 [p.r, p.g, p.b, p.a] rfl rfl (Bk.new _ _ _ (by simp)) rfl hfl (by simp; omega) ?_; intro v5 w5 ho5 hg5)
        have hB5 := below_grown hu1 hg5 (balloc (balloc hbw _) _) (Nat.le_refl _)
        rw [HT.out] at ho5
        clear hu1 hg5 hu c0 c1 c2 c3 HT Hp hkl
        go_wp2
        go_roundw
        case rel => exact ⟨k + 1, by omega, by go_num, ho5, hB5⟩
        case measure => simp [intOf]; omega
      · have HE : Hid (bytesL (l.take k) = bytesL l) := by unfold Hid; rw [List.take_of_length_le (by have := Hn.out; omega)]
        rw [HE.out] at hu
        go_wp2
        go_ret
        exact ⟨_, rfl, hu, hbw⟩
end Go.Proofs.Ytnefnnhnjmmebaa
