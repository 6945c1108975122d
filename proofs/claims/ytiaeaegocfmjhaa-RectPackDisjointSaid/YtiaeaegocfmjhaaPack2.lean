/-
  The walks of (*packer).open and (*packer).place.
-/
import Derived.Test.YtiaeaegocfmjhaaPack
import Derived.Test.YtiaeaegocfmjhaaFrame
namespace Go.Proofs.Ytiaeaegocfmjhaa
open Go.RowKit
set_option linter.unusedSimpArgs false
set_option linter.unusedVariables false

theorem Try.infoShelf : (Try.prog.info? 74).map (fun i => (i.zero, i.size, i.bytes)) = some (some (.agg #[.int .i64 0, .int .i64 0, .int .i64 0]), 3, 24) := by kernel_rfl

/-- The packer lies in block bp; its shelves are the call's own. -/
def PkSt (w : World) (bp base : Nat) (pw ph : Int) (ss : List Sf) (nx : Int) (v : Value) : Prop :=
  Bk w bp 61 #[.int .i64 pw, .int .i64 ph, v, .int .i64 nx] ∧ OwnL encS 74 3 w base v ss ∧ base ≤ bp

/-- Types of the packer's own blocks. -/
def pkT : List TypeId := [61, 74]

/-- What a method of the packer leaves. -/
def PkRet (r : Value) (bp base : Nat) (pw ph : Int) (ss : List Sf) (nx : Int) (w : World) (e : Ending) (w' : World) : Prop :=
  e = .returned r ∧ (∃ v, PkSt w' bp base pw ph ss nx v) ∧ Fr base pkT w w'

set_option maxHeartbeats 800000 in
theorem open_no (bp base : Nat) (pw ph nx Y : Int) (ss : List Sf) (v : Value) (w : World) (hp : PkSt w bp base pw ph ss nx v) (h0 : 0 ≤ nx) (h1 : nx ≤ ph) (h2 : ph ≤ 4096) (h3 : ph - nx < Y) :
    Calls Try.prog 54 #[.pointer (some ⟨bp, 0, none⟩), .int .i64 Y] w (PkRet (.bool false) bp base pw ph ss nx w) := by
  obtain ⟨kP, hO, hbp⟩ := hp
  have esub : IntKind.i64.wrap (ph - nx) = ph - nx := IntWalk.i64_in _ (by omega)
  have hd : decide (ph - nx < Y) = true := by simpa using h3
  go_enter Try.func54, Try.ntmps54
  go_wp2_with fail
  
  refine wp_region_gob 11 [(0, true), (1, true), (2, true), (3, true), (4, true), (5, true), (6, true), (7, true), (8, true), (9, true), (10, true)] (by kernel_rfl) (by kernel_rfl) (fun c a d v w h => by cases d <;> exact h) ?_
  repeat (refine wpGo_pure (v := ?_) rfl rfl (fun w' hS => ?_) ?_; rotate_left; (· have kPp : Bk w' (bp) 61 #[.int .i64 pw, .int .i64 ph, v, .int .i64 nx] := (by repeat (first | (with_reducible assumption) | ((with_reducible refine Bk.new _ _ _ ?_); first | (with_reducible rfl) | (simp; done)) | (with_reducible refine Bk.alloc ?_ _) | (with_reducible refine Bk.drew ?_) | (with_reducible refine Bk.drewN ?_ _) | ((with_reducible refine Bk.far ?_ ?_ _); rotate_left; focus (first | (simp; done) | (simp; omega))) | (with_reducible refine Bk.below ?_ (by with_reducible assumption)))); obtain ⟨kcPp, kfPp, kaPp, kgPp, klPp⟩ := kPp.rules; go_simp; exact rfl); (try simp only [Act.put, List.setIfInBounds_toArray, List.set_cons_zero, List.set_cons_succ]))
  refine wpGo_nil ?_
  simp only [List.drop_succ_cons, List.drop_zero]
  clear esub
  go_wp2
  go_ret
  exact ⟨rfl, ⟨v, kP.drew, hO.drew, hbp⟩, (Fr.refl _ _ _).drew⟩

set_option maxHeartbeats 800000 in
theorem open_yes (bp base : Nat) (pw ph nx Y : Int) (ss : List Sf) (v : Value) (w : World) (hp : PkSt w bp base pw ph ss nx v) (h0 : 0 ≤ nx) (h1 : nx ≤ ph) (h2 : ph ≤ 4096) (h3 : Y ≤ ph - nx) (h4 : 0 ≤ Y) (hlen : ss.length ≤ 4294967296) :
    Calls Try.prog 54 #[.pointer (some ⟨bp, 0, none⟩), .int .i64 Y] w (PkRet (.bool true) bp base pw ph (ss ++ [⟨nx, Y, 0⟩]) (nx + Y) w) := by
  obtain ⟨kP, hO, hbp⟩ := hp
  have esub : IntKind.i64.wrap (ph - nx) = ph - nx := IntWalk.i64_in _ (by omega)
  have hd : decide (ph - nx < Y) = false := by simp; omega
  have hbs := kP.lt
  go_enter Try.func54, Try.ntmps54
  go_wp2_with fail
  refine wp_region_gob 11 [(0, true), (1, true), (2, true), (3, true), (4, true), (5, true), (6, true), (7, true), (8, true), (9, true), (10, true)] (by kernel_rfl) (by kernel_rfl) (fun c a d v w h => by cases d <;> exact h) ?_
  repeat (refine wpGo_pure (v := ?_) rfl rfl (fun w' hS => ?_) ?_; rotate_left; (· have kPp : Bk w' (bp) 61 #[.int .i64 pw, .int .i64 ph, v, .int .i64 nx] := (by repeat (first | (with_reducible assumption) | ((with_reducible refine Bk.new _ _ _ ?_); first | (with_reducible rfl) | (simp; done)) | (with_reducible refine Bk.alloc ?_ _) | (with_reducible refine Bk.drew ?_) | (with_reducible refine Bk.drewN ?_ _) | ((with_reducible refine Bk.far ?_ ?_ _); rotate_left; focus (first | (simp; done) | (simp; omega))) | (with_reducible refine Bk.below ?_ (by with_reducible assumption)))); obtain ⟨kcPp, kfPp, kaPp, kgPp, klPp⟩ := kPp.rules; go_simp; exact rfl); (try simp only [Act.put, List.setIfInBounds_toArray, List.set_cons_zero, List.set_cons_succ]))
  refine wpGo_nil ?_
  simp only [List.drop_succ_cons, List.drop_zero]
  clear esub hd
  go_wp2_with fail
  refine wp_region_go 15 [(0, true), (1, true), (2, true), (3, true), (4, true), (5, true), (6, true), (7, true), (8, true), (9, true), (10, true), (11, false), (12, false), (13, true), (14, true)] (fun w' => Bk w' bp 61 #[.int .i64 pw, .int .i64 ph, v, .int .i64 nx]) (by kernel_rfl) (by kernel_rfl) (fun c a d v w h => by cases d <;> exact h) kP.drew.drew ?_
  repeat (refine wpGo_pure (v := ?_) rfl rfl (fun w' hS => ?_) ?_; rotate_left; (· obtain ⟨kc, kf, ka, kg, kl⟩ := Bk.rules hS; go_simp; exact rfl); (try simp only [Act.put, List.setIfInBounds_toArray, List.set_cons_zero, List.set_cons_succ]))
  refine wpGo_eff rfl (fun K hK => ?_)
  go_simp
  refine hK.out _ _ (kP.alloc _) (fun hS1 => ?_)
  clear hK K
  refine wpGo_effp rfl (fun K hK => ?_)
  refine wp_append_one encS_len encS_one 59 Try.infoShelf rfl (by decide) (by decide) Try.underlying59 _ _ rfl base v ss rfl (hO.drew.drew.alloc (.cells #[.int .i64 nx, .int .i64 Y, .int .i64 0] 74)) w.heap.size ⟨nx, Y, 0⟩ rfl (Bk.new _ _ _ rfl) rfl hlen (by simp; omega) ?_
  intro v5 w5 ho5 hg5 hv5
  have kP5 := (kP.drew.drew.alloc (.cells #[.int .i64 nx, .int .i64 Y, .int .i64 0] 74)).grown hg5 (hO.neBk kP (by decide))
  obtain ⟨kc5, kf5, ka5, kg5, kl5⟩ := kP5.rules
  obtain ⟨g5, c5, hv5, _⟩ := hv5
  subst hv5
  refine hK.out _ _ kP5 (fun _ => ?_)
  clear hK K
  simp only [Act.put, List.setIfInBounds_toArray, List.set_cons_zero, List.set_cons_succ]
  repeat (refine wpGo_pure (v := ?_) rfl rfl (fun w' hS => ?_) ?_; rotate_left; (· obtain ⟨kc, kf, ka, kg, kl⟩ := Bk.rules hS; go_simp; exact rfl); (try simp only [Act.put, List.setIfInBounds_toArray, List.set_cons_zero, List.set_cons_succ]))
  refine wpGo_nil ?_
  simp only [List.drop_succ_cons, List.drop_zero]
  have hF5 : Fr base pkT w w5 := (((Fr.refl base pkT w).drew.drew).alloc _).grown (hO.drew.drew.alloc _) hg5 (by decide)
  have kP6 := (kP5.set 2 (.slice (some ⟨g5, 0, none⟩) (ss.length + 1) c5)).set 3 (.int .i64 (nx + Y))
  have ho6 := (ho5.setFar kP5 (by decide) 2 (.slice (some ⟨g5, 0, none⟩) (ss.length + 1) c5)).setFar (kP5.set 2 _) (by decide) 3 (.int .i64 (nx + Y))
  have hF6 := (hF5.set kP5 (by decide) hbp 2 (.slice (some ⟨g5, 0, none⟩) (ss.length + 1) c5)).set (kP5.set 2 _) (by decide) hbp 3 (.int .i64 (nx + Y))
  go_wp2
  go_ret
  exact ⟨rfl, ⟨_, kP6, ho6, hbp⟩, hF6⟩
end Go.Proofs.Ytiaeaegocfmjhaa
