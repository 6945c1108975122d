/-
  The walks of bitmap.parts and sums.at.
-/
import Derived.Test.YtnefnnhnjmmebaaSumP
import Derived.IntWalk
namespace Go.Proofs.Ytnefnnhnjmmebaa
open Go.RowKit
set_option linter.unusedSimpArgs false
set_option linter.unusedVariables false


set_option maxHeartbeats 800000 in
theorem parts_any (p : Px) (w : World) (hp : p.byte) :
    Calls Try.prog 59 #[.agg #[.int .u8 p.r, .int .u8 p.g, .int .u8 p.b, .int .u8 p.a]] w fun e w' => e = .returned (.agg #[.int .i64 p.r, .int .i64 p.g, .int .i64 p.b, .int .i64 p.a]) ∧ Below w.heap.size w w' := by
  obtain ⟨r0, r1, g0, g1, b0, b1, a0, a1⟩ := hp
  go_enter Try.func59, Try.ntmps59
  go_wp2
  refine bodyPost_ret (v := _) ?_ rfl ⟨rfl, (by repeat (first | (with_reducible exact Below.refl _ _) | (with_reducible refine balloc ?_ _) | (with_reducible refine Below.drew ?_) | (with_reducible refine bdrewN ?_ _) | ((with_reducible refine bset ?_ ?_ _); rotate_left; focus (first | (with_reducible exact Nat.le_refl _) | (simp; done) | (simp; omega) | omega)) | (with_reducible refine bstep (by with_reducible assumption) ?_)))⟩
  simp [results, Try.results59, go_sem, List.getElem?_cons_zero]
set_option maxHeartbeats 800000 in
theorem tat_any (wd ht : Nat) (A : Option Addr) (n c : Nat) (l : List Px) (i j : Nat) (w : World) (hr : RdL encI 4 w A l) (hi : i ≤ wd) (hj : j ≤ ht) (hw : wd ≤ 8192) (hh : ht ≤ 8192) (hn : l.length = n) (hn2 : n = (wd + 1) * (ht + 1)) (v : Px) (hv : Hid (l[tix wd i j]? = some v)) :
    Calls Try.prog 113 #[.agg #[.int .i64 (wd : Int), .int .i64 (ht : Int), .slice A n c], .int .i64 (i : Int), .int .i64 (j : Int)] w fun e w' => e = .returned (.agg #[.int .i64 v.r, .int .i64 v.g, .int .i64 v.b, .int .i64 v.a]) ∧ Below w.heap.size w w' := by
  have hk := tix_lt hi hj
  obtain ⟨b0, b1⟩ := tix_bd hi hj hw hh
  have hc := tix_cast wd i j
  have hv0 := hv.out
  generalize tix wd i j = k at *
  have hkl : k < l.length := by omega
  rw [List.getElem?_eq_getElem hkl] at hv0
  obtain ⟨g, o, rfl, hg, hcA⟩ := rdi hr hkl
  have e : l[k] = v := by injection hv0
  rw [e] at hcA
  obtain ⟨c0, c1, c2, c3⟩ := hcA
  have hb1 : Below w.heap.size w ((w.alloc (.cells #[.int .i64 (wd : Int), .int .i64 (ht : Int), .slice (some ⟨g, o, none⟩) n c] 98)).alloc (.cells #[.int .i64 0, .int .i64 0, .int .i64 0, .int .i64 0] 81)) := (by repeat (first | (with_reducible exact Below.refl _ _) | (with_reducible refine balloc ?_ _) | (with_reducible refine Below.drew ?_) | (with_reducible refine bdrewN ?_ _) | ((with_reducible refine bset ?_ ?_ _); rotate_left; focus (first | (with_reducible exact Nat.le_refl _) | (simp; done) | (simp; omega) | omega)) | (with_reducible refine bstep (by with_reducible assumption) ?_)))
  have d0 := (hb1.cell (p := ⟨g, o + k * 4, none⟩) hg).trans c0
  have d1 := (hb1.cell (p := ⟨g, o + k * 4 + 1, none⟩) hg).trans c1
  have d2 := (hb1.cell (p := ⟨g, o + k * 4 + 2, none⟩) hg).trans c2
  have d3 := (hb1.cell (p := ⟨g, o + k * 4 + 3, none⟩) hg).trans c3
  have f1 : (j : Int) * ((wd : Int) + 1) + (i : Int) = (k : Int) := hc.symm
  have i0 : (0 : Int) ≤ (k : Int) := by omega
  have i1 : (k : Int) < (n : Int) := by omega
  clear hv hv0 e hr hn hn2 hk hkl c0 c1 c2 c3 hb1 hc
  go_enter Try.func113, Try.ntmps113
  go_wp2
  refine bodyPost_ret (v := _) ?_ rfl ⟨rfl, (by repeat (first | (with_reducible exact Below.refl _ _) | (with_reducible refine balloc ?_ _) | (with_reducible refine Below.drew ?_) | (with_reducible refine bdrewN ?_ _) | ((with_reducible refine bset ?_ ?_ _); rotate_left; focus (first | (with_reducible exact Nat.le_refl _) | (simp; done) | (simp; omega) | omega)) | (with_reducible refine bstep (by with_reducible assumption) ?_)))⟩
  simp [results, Try.results113, go_sem, List.getElem?_cons_zero]
end Go.Proofs.Ytnefnnhnjmmebaa
