/-
  The walk of grisaillelaw30.exampleHolds.
-/
import Derived.Test.YtnefnnhnjmmebaaBm5
namespace Go.Proofs.Ytnefnnhnjmmebaa
open Go.RowKit
set_option linter.unusedSimpArgs false
set_option linter.unusedVariables false

/-- Bytes of an owned slice as a string. -/
theorem conv_bytes {w : World} {g o c n : Nat} {l : List Int} (hl : l.length = n) (hc : ∀ i (h : i < l.length) (j : Nat) (u : Value), (encB l[i])[j]? = some u → w.cell? ⟨g, o + i * 1 + j, none⟩ = some u) :
    (convert 39 9 (.slice (some ⟨g, o, none⟩) n c)).run Try.prog w = .ok (.string (strOfNums l)) w :=
  run_convert_bytes_arg w 39 5 Try.underlying39 Try.underlying5 g o n c l hl (fun i hi => by
    have h := hc i (by omega) 0 (.int .u8 (l[i]'(by omega))) rfl
    rw [Nat.mul_one, Nat.add_zero] at h
    rw [h, List.getD_eq_getElem?_getD, List.getElem?_eq_getElem (by omega)]; rfl) 9 Try.underlying9
theorem streq_refl (a : ByteArray) : (a.toList == a.toList) = true := by simp

set_option maxHeartbeats 1600000 in
theorem ex_any (w : World) : Calls Try.prog 17 #[] w fun e w' => e = .returned (.bool true) ∧ Below w.heap.size w w' := by
  have e1 : newR ⟨0, 0, 1, 1⟩ = ⟨0, 0, 1, 1⟩ := rfl
  have e2 : newL ⟨0, 0, 1, 1⟩ ⟨9, 9, 9, 3⟩ = [⟨3, 3, 3, 3⟩] := rfl
  have e3 : newE ⟨0, 0, 1, 1⟩ = 0 := rfl
  have e4 : (if bmValid ⟨0, 0, 1, 1⟩ [⟨3, 3, 3, 3⟩] then bytesL [⟨3, 3, 3, 3⟩] else []) = [3, 3, 3, 3] := rfl
  have HN := Lib.hid (new_any ⟨0, 0, 1, 1⟩ ⟨9, 9, 9, 3⟩)
  rw [e1, e2, e3] at HN
  clear e1 e2 e3
  have HY := fun A c w hr => bytes_any ⟨0, 0, 1, 1⟩ A 1 c [⟨3, 3, 3, 3⟩] w hr rfl (by omega)
  rw [e4] at HY
  have HB := Lib.hid HY
  clear e4 HY
  go_enter Try.func17, Try.ntmps17
  go_wp2_with fail
  refine (HN.out _).mono ?_
  rintro e w1 ⟨v1, rfl, ho1, hb1⟩
  obtain ⟨A1, c1, hv1, hr1, _⟩ := ho1.form encP_len
  have hv1' : v1 = .slice A1 1 c1 := hv1
  subst hv1'
  have HR1 := Lib.hid hr1
  clear hv1 ho1 hr1
  go_wp2_with fail
  refine (requal_same ⟨0, 0, 1, 1⟩ A1 _ 1 c1 _ [⟨3, 3, 3, 3⟩] _ (HR1.out.below (by repeat (first | (with_reducible exact Below.refl _ _) | (with_reducible refine balloc ?_ _) | (with_reducible refine Below.drew ?_) | (with_reducible refine bdrewN ?_ _) | ((with_reducible refine bset ?_ ?_ _); rotate_left; focus (first | (with_reducible exact Nat.le_refl _) | (simp; done) | (simp; omega) | omega)) | (with_reducible refine bstep (by with_reducible assumption) ?_)))) (rd_of_bk (e := 25) (cs := #[.int .u8 3, .int .u8 3, .int .u8 3, .int .u8 3]) encP_len (Bk.new _ _ _ (by simp)) rfl) rfl (by omega)).mono ?_
  rintro e w2 ⟨rfl, hb2⟩
  have kS2 : Bk w2 (w1.heap.size) 28 #[.int .i64 0, .int .i64 0, .int .i64 1, .int .i64 1, .slice A1 1 c1] := (by repeat (first | (with_reducible assumption) | ((with_reducible refine Bk.new _ _ _ ?_); first | (with_reducible rfl) | (simp; done)) | (with_reducible refine Bk.alloc ?_ _) | (with_reducible refine Bk.drew ?_) | (with_reducible refine Bk.drewN ?_ _) | ((with_reducible refine Bk.far ?_ ?_ _); rotate_left; focus (first | (simp; done) | (simp; omega))) | (with_reducible refine Bk.below ?_ (by with_reducible assumption)))); obtain ⟨kcS2, kfS2, kaS2, kgS2, klS2⟩ := kS2.rules
  have hB2 : Below w1.heap.size w1 w2 := (by repeat (first | (with_reducible exact Below.refl _ _) | (with_reducible refine balloc ?_ _) | (with_reducible refine Below.drew ?_) | (with_reducible refine bdrewN ?_ _) | ((with_reducible refine bset ?_ ?_ _); rotate_left; focus (first | (with_reducible exact Nat.le_refl _) | (simp; done) | (simp; omega) | omega)) | (with_reducible refine bstep (by with_reducible assumption) ?_)))
  go_wp2_with fail
  refine (HB.out A1 c1 _ (HR1.out.below hB2)).mono ?_
  rintro e w3 ⟨v3, rfl, ho3, hb3⟩
  obtain ⟨A3, c3, hv3, hr3, _⟩ := ho3.form encB_len
  obtain ⟨g3, o3, hA3, hg3, hcell⟩ := hr3 (by simp)
  subst hA3
  have hv3' : v3 = .slice (some ⟨g3, o3, none⟩) 4 c3 := hv3
  subst hv3'
  have hconv := conv_bytes (c := c3) (n := 4) rfl hcell
  have hstr : strOfNums [3, 3, 3, 3] = ⟨#[3, 3, 3, 3]⟩ := rfl
  rw [hstr] at hconv
  have hse := streq_refl ⟨#[3, 3, 3, 3]⟩
  clear hstr hv3 ho3 hr3 hcell kcS2 kfS2 kaS2 kgS2
  go_wp2
  go_ret
  exact ⟨rfl, (by repeat (first | (with_reducible exact Below.refl _ _) | (with_reducible refine balloc ?_ _) | (with_reducible refine Below.drew ?_) | (with_reducible refine bdrewN ?_ _) | ((with_reducible refine bset ?_ ?_ _); rotate_left; focus (first | (with_reducible exact Nat.le_refl _) | (simp; done) | (simp; omega) | omega)) | (with_reducible refine bstep (by with_reducible assumption) ?_)))⟩
end Go.Proofs.Ytnefnnhnjmmebaa
