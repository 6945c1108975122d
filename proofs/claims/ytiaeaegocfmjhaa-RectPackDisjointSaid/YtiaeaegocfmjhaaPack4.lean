/-
  (*packer).place as one contract; the walk of rect.Pack.
-/
import Derived.Test.YtiaeaegocfmjhaaPack3
namespace Go.Proofs.Ytiaeaegocfmjhaa
open Go.RowKit
set_option linter.unusedSimpArgs false
set_option linter.unusedVariables false

theorem OwnL.grownFar {α β : Type} {enc : α → List Value} {enc' : β → List Value} {e e' : TypeId} {sz sz' : Nat} {w w' : World} {base base' : Nat} {v v' : Value} {l : List α} {l' : List β} (ho : OwnL enc e sz w base v l) (ho' : OwnL enc' e' sz' w base' v' l') (hne : e' ≠ e) (hg : w.grownBy w' v'.ownBlock) : OwnL enc e sz w' base v l := by
  refine ⟨ho.1, ?_⟩
  rcases ho.2 with h2 | ⟨g, cap, cur, hv, hb, hh, r⟩
  · exact Or.inl h2
  · exact Or.inr ⟨g, cap, cur, hv, hb, Bk.grown (t := e) hh hg (ho'.neBk (t := e) hh hne), r⟩

theorem place_none (bp base : Nat) (pw ph nx X Y : Int) (ss : List Sf) (v : Value) (w : World) (hp : PkSt w bp base pw ph ss nx v) (hlen : ss.length ≤ 99999) (hok : ShOk pw ph ss nx) (hpw : pw ≤ 4096) (hph : ph ≤ 4096)
    (h0 : 1 ≤ X) (h1 : 1 ≤ Y) (h2 : Y ≤ 4096) (h : placeP pw ph ss nx X Y = none) :
    Calls Try.prog 48 #[.pointer (some ⟨bp, 0, none⟩), .agg #[.int .i64 X, .int .i64 Y]] w (PkRet (.tuple #[.agg #[.int .i64 0, .int .i64 0, .int .i64 0, .int .i64 0], .bool false]) bp base pw ph ss nx w) := by
  unfold placeP at h
  by_cases hX : pw < X
  · exact place_wide bp base pw ph nx X Y ss v w hp hX
  · rw [if_neg hX] at h
    cases hf : ss.findIdx? (fitsB pw X Y) with
    | some i => rw [hf] at h; cases h
    | none =>
      rw [hf] at h
      simp only at h
      by_cases hh : ph - nx < Y
      · exact place_no bp base pw ph nx X Y ss v w hp (by omega) (by omega) hok hpw hph (by unfold findV; rw [hf]) (by omega) (by omega) h2 hh
      · rw [if_neg hh] at h; cases h

theorem place_some (bp base : Nat) (pw ph nx X Y : Int) (ss : List Sf) (v : Value) (w : World) (hp : PkSt w bp base pw ph ss nx v) (hlen : ss.length ≤ 99999) (hok : ShOk pw ph ss nx) (hpw : pw ≤ 4096) (hph : ph ≤ 4096)
    (h0 : 1 ≤ X) (h1 : 1 ≤ Y) (h2 : Y ≤ 4096) {r : Rc} {ss' : List Sf} {nx' : Int} (h : placeP pw ph ss nx X Y = some (r, ss', nx')) :
    Calls Try.prog 48 #[.pointer (some ⟨bp, 0, none⟩), .agg #[.int .i64 X, .int .i64 Y]] w (PkRet (.tuple #[.agg #[.int .i64 r.x0, .int .i64 r.y0, .int .i64 r.x1, .int .i64 r.y1], .bool true]) bp base pw ph ss' nx' w) := by
  unfold placeP at h
  by_cases hX : pw < X
  · rw [if_pos hX] at h; cases h
  · rw [if_neg hX] at h
    cases hf : ss.findIdx? (fitsB pw X Y) with
    | some i =>
      rw [hf] at h
      obtain ⟨hi, _⟩ := find_some hf
      obtain ⟨g, c, cur, hv, _⟩ := hp.2.1.block (by intro e; rw [e] at hi; simp at hi)
      subst hv
      have hg : ss.getD i ⟨0, 0, 0⟩ = ss[i] := by rw [List.getD_eq_getElem?_getD, List.getElem?_eq_getElem hi]; rfl
      simp only [hg] at h
      simp only [Option.some.injEq, Prod.mk.injEq] at h
      obtain ⟨rfl, rfl, rfl⟩ := h
      exact place_hit bp base pw ph nx X Y ss g _ c w hp (by omega) rfl (by omega) hok hpw hph i hi _ rfl (by unfold findV; rw [hf]) (by omega) (by omega) h2
    | none =>
      rw [hf] at h
      simp only at h
      by_cases hh : ph - nx < Y
      · rw [if_pos hh] at h; cases h
      · rw [if_neg hh] at h
        simp only [Option.some.injEq, Prod.mk.injEq] at h
        obtain ⟨rfl, rfl, rfl⟩ := h
        have hi : ss.length < (ss ++ [(⟨nx, Y, 0⟩ : Sf)]).length := by simp
        have hs : (ss ++ [(⟨nx, Y, 0⟩ : Sf)])[ss.length]'hi = ⟨nx, Y, 0⟩ := by simp
        have := place_new bp base pw ph nx (nx + Y) X Y ss _ ⟨nx, Y, 0⟩ ss.length v w hp (by omega) rfl (by omega) hok hpw hph (by unfold findV; rw [hf]) (by omega) (by omega) h2 (by omega) rfl hi hs (by have := hok.n0; simp only; omega) rfl
        have e : (ss ++ [(⟨nx, Y, 0⟩ : Sf)]).set ss.length ⟨nx, Y, 0 + X⟩ = ss ++ [⟨nx, Y, X⟩] := by
          rw [List.set_append_right _ _ (Nat.le_refl _)]; simp
        simp only at this
        rw [e, Int.zero_add] at this
        exact this

def encZ (z : Int × Int) : List Value := [.int .i64 z.1, .int .i64 z.2]
theorem encZ_len (z : Int × Int) : (encZ z).length = 2 := rfl
theorem rd2 {w : World} {A : Option Addr} {l : List (Int × Int)} (h : RdL encZ 2 w A l) {k : Nat} (hk : k < l.length) : ∃ g o, A = some ⟨g, o, none⟩ ∧ g < w.heap.size ∧
    w.cell? ⟨g, o + k * 2, none⟩ = some (.int .i64 (l[k]).1) ∧ w.cell? ⟨g, o + k * 2 + 1, none⟩ = some (.int .i64 (l[k]).2) := by
  obtain ⟨g, o, hA, hg, hc⟩ := h (by intro e; rw [e] at hk; simp at hk)
  exact ⟨g, o, hA, hg, hc k hk 0 _ rfl, hc k hk 1 _ rfl⟩

/-- What Pack returns. -/
def RetP (o : Option (List Rc)) (w : World) (e : Ending) (w' : World) : Prop := ∃ v, e = .returned (.tuple #[v, .bool o.isSome]) ∧ OwnL encR 23 4 w' w.heap.size v (o.getD []) ∧ Below w.heap.size w w'

theorem RetP.no {w w' : World} (h : Below w.heap.size w w') : RetP none w (.returned (.tuple #[.slice none 0 0, .bool false])) w' := ⟨_, rfl, OwnL.nil _ _, h⟩

theorem all_take {l : List (Int × Int)} {n : Nat} (hn : l.length = n) (h : ∀ j (hj : j < l.length), j < n → sizeB l[j] = true) : l.all sizeB = true :=
  List.all_eq_true.2 (fun z hz => by obtain ⟨j, hj, rfl⟩ := List.mem_iff_getElem.1 hz; exact h j hj (by omega))

set_option maxHeartbeats 1600000 in
theorem pack_any (pw ph : Int) (A : Option Addr) (n c : Nat) (l : List (Int × Int)) (w : World) (hr : RdL encZ 2 w A l) (hn : l.length = n) :
    Calls Try.prog 40 #[.int .i64 pw, .int .i64 ph, .slice A n c] w (RetP (packR pw ph l) w) := by
  have HR := Lib.hid hr
  have Hn := Lib.hid hn
  clear hr hn
  obtain ⟨o, Ho⟩ : ∃ o, Hid (packR pw ph l = o) := ⟨_, rfl⟩
  rw [Ho.out]
  by_cases hg : sideB pw = true ∧ sideB ph = true ∧ n ≤ 1024
  · obtain ⟨g1, g2, g3⟩ := hg
    have s1 := sideB_true g1
    have s2 := sideB_true g2
    go_enter Try.func40, Try.ntmps40
    go_wp2_with fail
    refine (side_any pw _).mono ?_
    rintro e w1 ⟨rfl, rfl⟩
    rw [g1]
    go_wp2_with fail
    refine (side_any ph _).mono ?_
    rintro e w1 ⟨rfl, rfl⟩
    rw [g2]
    have g4 : decide ((1024 : Int) < (n : Int)) = false := by simp; omega
    go_wp2_with fail
    go_loopw [31] (fun i wr => ∃ k : Nat, k ≤ n ∧ i = .int .i64 k ∧ Below w.heap.size w wr ∧ Hid (∀ j (hj : j < l.length), j < k → sizeB l[j] = true)) (fun i _ => n - (intOf i).toNat)
    case atStart => exact ⟨0, Nat.zero_le _, rfl, (by repeat (first | (with_reducible exact Below.refl _ _) | (with_reducible refine balloc ?_ _) | (with_reducible refine Below.drew ?_) | (with_reducible refine bdrewN ?_ _) | ((with_reducible refine bset ?_ ?_ _); rotate_left; focus (first | (with_reducible exact Nat.le_refl _) | (simp; done) | (simp; omega) | omega)) | (with_reducible refine bstep (by with_reducible assumption) ?_))), fun j hj h => by omega⟩
    case round =>
      obtain ⟨k, hk, rfl, hbw, HN⟩ := hrel
      by_cases hlt : k < n
      · have hkl : k < l.length := by have := Hn.out; omega
        obtain ⟨g, o', rfl, hg, hc⟩ := rd2 (HR.out.below hbw) hkl
        obtain ⟨z, Hz⟩ : ∃ z, Hid (l[k] = z) := ⟨l[k], rfl⟩
        rw [Hz.out] at hc
        obtain ⟨c0, c1⟩ := hc
        obtain ⟨b1, Hb1⟩ : ∃ b, Hid (sideB z.1 = b) := ⟨_, rfl⟩
        obtain ⟨b2, Hb2⟩ : ∃ b, Hid (sideB z.2 = b) := ⟨_, rfl⟩
        have i0 : (0 : Int) ≤ (k : Int) := by omega
        have HM : Hid ((b1 && b2) = true → ∀ j (hj : j < l.length), j < k + 1 → sizeB l[j] = true) := fun h j hj hjk => by
          by_cases e : j = k
          · subst e; rw [Hz.out]; unfold sizeB; rw [Hb1.out, Hb2.out]; exact h
          · exact HN.out j hj (by omega)
        have HO : Hid ((b1 && b2) = false → o = none) := fun h => by
          rw [← Ho.out]; unfold packR
          have : l.all sizeB = false := List.all_eq_false.2 ⟨z, by rw [← Hz.out]; exact List.getElem_mem hkl, by unfold sizeB; rw [Hb1.out, Hb2.out, h]; simp⟩
          rw [this]; simp
        clear Hz hkl
        go_wp2_with fail
        refine (side_any z.1 _).mono ?_
        rintro e w1 ⟨rfl, rfl⟩
        rw [Hb1.out]
        cases b1
        · have HO' : Hid (o = none) := HO.out rfl
          go_wp2
          rw [HO'.out]
          refine bodyPost_ret (v := _) ?_ rfl (RetP.no (by repeat (first | (with_reducible exact Below.refl _ _) | (with_reducible refine balloc ?_ _) | (with_reducible refine Below.drew ?_) | (with_reducible refine bdrewN ?_ _) | ((with_reducible refine bset ?_ ?_ _); rotate_left; focus (first | (with_reducible exact Nat.le_refl _) | (simp; done) | (simp; omega) | omega)) | (with_reducible refine bstep (by with_reducible assumption) ?_))))
          simp [results, Try.results40, go_sem]
        · go_wp2_with fail
          refine (side_any z.2 _).mono ?_
          rintro e w1 ⟨rfl, rfl⟩
          rw [Hb2.out]
          cases b2
          · have HO' : Hid (o = none) := HO.out rfl
            go_wp2
            rw [HO'.out]
            refine bodyPost_ret (v := _) ?_ rfl (RetP.no (by repeat (first | (with_reducible exact Below.refl _ _) | (with_reducible refine balloc ?_ _) | (with_reducible refine Below.drew ?_) | (with_reducible refine bdrewN ?_ _) | ((with_reducible refine bset ?_ ?_ _); rotate_left; focus (first | (with_reducible exact Nat.le_refl _) | (simp; done) | (simp; omega) | omega)) | (with_reducible refine bstep (by with_reducible assumption) ?_))))
            simp [results, Try.results40, go_sem]
          · have HM' := Lib.hid (HM.out rfl)
            go_wp2
            go_roundw
            case rel => exact ⟨k + 1, by omega, by go_num, (by repeat (first | (with_reducible exact Below.refl _ _) | (with_reducible refine balloc ?_ _) | (with_reducible refine Below.drew ?_) | (with_reducible refine bdrewN ?_ _) | ((with_reducible refine bset ?_ ?_ _); rotate_left; focus (first | (with_reducible exact Nat.le_refl _) | (simp; done) | (simp; omega) | omega)) | (with_reducible refine bstep (by with_reducible assumption) ?_))), HM'⟩
            case measure => simp [intOf]; omega
      · have HO : Hid (o = (runP pw ph l).map (·.1)) := by
          unfold Hid; rw [← Ho.out]; unfold packR
          rw [g1, g2, all_take Hn.out (fun j hj h => HN.out j hj (by omega))]
          simp [Hn.out, g3]
        have HS : Hid (∀ z ∈ l, sizeB z = true) := List.all_eq_true.1 (all_take Hn.out (fun j hj h => HN.out j hj (by omega)))
        clear HN hk
        rename World => w1
        go_wp2_with fail
        go_loopw [11, 52] (fun v i wr => ∃ k : Nat, ∃ os ss nx vs, k ≤ n ∧ i = .int .i64 k ∧ Hid (runP pw ph (l.take k) = some (os, ss, nx)) ∧ PkSt wr w1.heap.size w1.heap.size pw ph ss nx vs ∧ OwnL encR 23 4 wr w1.heap.size v os ∧ Below w.heap.size w wr) (fun _ i _ => n - (intOf i).toNat)
        case atStart => exact ⟨0, [], [], 0, _, Nat.zero_le _, rfl, rfl, ⟨Bk.new _ _ _ rfl, OwnL.nil _ _, Nat.le_refl _⟩, OwnL.nil _ _, (by repeat (first | (with_reducible exact Below.refl _ _) | (with_reducible refine balloc ?_ _) | (with_reducible refine Below.drew ?_) | (with_reducible refine bdrewN ?_ _) | ((with_reducible refine bset ?_ ?_ _); rotate_left; focus (first | (with_reducible exact Nat.le_refl _) | (simp; done) | (simp; omega) | omega)) | (with_reducible refine bstep (by with_reducible assumption) ?_)))⟩
        case round =>
          obtain ⟨q, os, ss, nx, vs, hq, rfl, HQ, hp, hown, hbq⟩ := hrel
          have hl0 := hp.1.lt
          have hrw := hbw.size
          by_cases hlq : q < n
          · have hkl : q < l.length := by have := Hn.out; omega
            obtain ⟨g, o', rfl, hg, hc⟩ := rd2 (HR.out.below hbq) hkl
            obtain ⟨z, Hz⟩ : ∃ z, Hid (l[q] = z) := ⟨l[q], rfl⟩
            rw [Hz.out] at hc
            obtain ⟨c0, c1⟩ := hc
            have i0 : (0 : Int) ≤ (q : Int) := by omega
            have hz := HS.out z (by rw [← Hz.out]; exact List.getElem_mem hkl)
            unfold sizeB at hz
            rw [Bool.and_eq_true] at hz
            have z1 := sideB_true hz.1
            have z2 := sideB_true hz.2
            have hln := run_len q l os ss nx (by have := Hn.out; omega) HQ.out
            have Hok := Lib.hid (run_ok (by omega) q l os ss nx (by have := Hn.out; omega) (fun z hm => HS.out z (List.mem_of_mem_take hm)) HQ.out)
            have HT : Hid (runP pw ph (l.take (q + 1)) = stepP pw ph (some (os, ss, nx)) z) := by unfold Hid; rw [run_take _ _ _ hkl, HQ.out, Hz.out]
            clear Hz hkl hz HQ
            go_wp2_with fail
            have hp1 : PkSt (wr.alloc (.cells #[.int .i64 z.1, .int .i64 z.2] 51)) w1.heap.size w1.heap.size pw ph ss nx vs := ⟨hp.1.alloc _, hp.2.1.alloc _, hp.2.2⟩
            have ho1 := hown.alloc (.cells #[.int .i64 z.1, .int .i64 z.2] 51)
            have hb1 : Below w.heap.size w (wr.alloc (.cells #[.int .i64 z.1, .int .i64 z.2] 51)) := balloc hbq _
            cases hpl : placeP pw ph ss nx z.1 z.2 with
            | none =>
              have HF : Hid (o = none) := by
                unfold Hid
                rw [HO.out, run_none (q + 1) (by rw [HT.out]; simp only [stepP, hpl])]; rfl
              refine (place_none w1.heap.size w1.heap.size pw ph nx z.1 z.2 ss vs _ hp1 (by omega) Hok.out s1.2 s2.2 z1.1 z2.1 z2.2 hpl).mono ?_
              rintro e w3 ⟨rfl, _, hF3⟩
              have hb3 := hF3.below hb1 hrw
              go_wp2
              rw [HF.out]
              refine bodyPost_ret (v := _) ?_ rfl (RetP.no (balloc hb3 _))
              simp [results, Try.results40, go_sem]
            | some pq =>
              obtain ⟨r, ss', nx'⟩ := pq
              have HF : Hid (runP pw ph (l.take (q + 1)) = some (os ++ [r], ss', nx')) := by
                unfold Hid
                rw [HT.out]; simp only [stepP, hpl]
              refine (place_some w1.heap.size w1.heap.size pw ph nx z.1 z.2 ss vs _ hp1 (by omega) Hok.out s1.2 s2.2 z1.1 z2.1 z2.2 hpl).mono ?_
              rintro e w3 ⟨rfl, ⟨v3, hp3⟩, hF3⟩
              have hb3 := hF3.below hb1 hrw
              have ho3 := ho1.fr hF3 (by decide)
              clear hpl HT Hok c0 c1 hp1 ho1 hb1
              have ho4 := ho3.alloc (.cells #[.int .i64 r.x0, .int .i64 r.y0, .int .i64 r.x1, .int .i64 r.y1] 23)
              have hfl : os.length ≤ 4294967296 := by omega
              go_wp2_with (at_builtin; refine wpList_append_one encR_len encR_one 25 Try.infoRect rfl (by decide) (by decide) Try.underlying25 rfl _ _ rfl w1.heap.size _ _ rfl (ho4.alloc _) (w3.heap.size + 1) r rfl (Bk.new _ _ _ (by simp)) rfl hfl (by have := hp3.1.lt; simp; omega) ?_; intro v5 w5 ho5 hg5 hv5)
              have hp5 : PkSt w5 w1.heap.size w1.heap.size pw ph ss' nx' v3 := ⟨((hp3.1.alloc (.cells #[.int .i64 r.x0, .int .i64 r.y0, .int .i64 r.x1, .int .i64 r.y1] 23)).alloc (.cells #[.int .i64 r.x0, .int .i64 r.y0, .int .i64 r.x1, .int .i64 r.y1] 23)).grown hg5 ((ho4.alloc (.cells #[.int .i64 r.x0, .int .i64 r.y0, .int .i64 r.x1, .int .i64 r.y1] 23)).neBk ((hp3.1.alloc (.cells #[.int .i64 r.x0, .int .i64 r.y0, .int .i64 r.x1, .int .i64 r.y1] 23)).alloc (.cells #[.int .i64 r.x0, .int .i64 r.y0, .int .i64 r.x1, .int .i64 r.y1] 23)) (by decide)), ((hp3.2.1.alloc (.cells #[.int .i64 r.x0, .int .i64 r.y0, .int .i64 r.x1, .int .i64 r.y1] 23)).alloc (.cells #[.int .i64 r.x0, .int .i64 r.y0, .int .i64 r.x1, .int .i64 r.y1] 23)).grownFar (ho4.alloc (.cells #[.int .i64 r.x0, .int .i64 r.y0, .int .i64 r.x1, .int .i64 r.y1] 23)) (by decide) hg5, hp3.2.2⟩
              have hb5 := below_grown (ho4.alloc _) hg5 (balloc (balloc hb3 _) _) hrw
              clear hv5 hg5
              go_wp2
              go_roundw
              case rel => exact ⟨q + 1, _, _, _, _, by omega, by go_num, HF, hp5, ho5, hb5⟩
              case measure => simp [intOf]; omega
          · have HE : Hid (o = some os) := by
              unfold Hid
              rw [HO.out]
              have := HQ.out
              rw [List.take_of_length_le (by have := Hn.out; omega)] at this
              rw [this]; rfl
            go_wp2
            refine bodyPost_ret (v := _) ?_ rfl ⟨_, rfl, by rw [HE.out]; exact hown.mono hrw, hbq⟩
            simp [results, Try.results40, go_sem, HE.out]
  · have HE : Hid (o = none) := by
      unfold Hid
      rw [← Ho.out]; unfold packR
      rw [if_neg]
      intro h
      simp only [Bool.and_eq_true, decide_eq_true_eq] at h
      exact hg ⟨h.1.1.1, h.1.1.2, by have := Hn.out; omega⟩
    rw [HE.out]
    clear HE Ho
    obtain ⟨b1, Hb1⟩ : ∃ b, Hid (sideB pw = b) := ⟨_, rfl⟩
    obtain ⟨b2, Hb2⟩ : ∃ b, Hid (sideB ph = b) := ⟨_, rfl⟩
    have HG : Hid (b1 = true → b2 = true → (1024 : Int) < (n : Int)) := fun h1 h2 => by
      have : ¬ n ≤ 1024 := fun h3 => hg ⟨Hb1.out.trans h1, Hb2.out.trans h2, h3⟩
      omega
    clear hg
    go_enter Try.func40, Try.ntmps40
    go_wp2_with fail
    refine (side_any pw _).mono ?_
    rintro e w1 ⟨rfl, rfl⟩
    rw [Hb1.out]
    cases b1
    · go_wp2
      refine bodyPost_ret (v := _) ?_ rfl (RetP.no (by repeat (first | (with_reducible exact Below.refl _ _) | (with_reducible refine balloc ?_ _) | (with_reducible refine Below.drew ?_) | (with_reducible refine bdrewN ?_ _) | ((with_reducible refine bset ?_ ?_ _); rotate_left; focus (first | (with_reducible exact Nat.le_refl _) | (simp; done) | (simp; omega) | omega)) | (with_reducible refine bstep (by with_reducible assumption) ?_))))
      simp [results, Try.results40, go_sem]
    · go_wp2_with fail
      refine (side_any ph _).mono ?_
      rintro e w1 ⟨rfl, rfl⟩
      rw [Hb2.out]
      cases b2
      · go_wp2
        refine bodyPost_ret (v := _) ?_ rfl (RetP.no (by repeat (first | (with_reducible exact Below.refl _ _) | (with_reducible refine balloc ?_ _) | (with_reducible refine Below.drew ?_) | (with_reducible refine bdrewN ?_ _) | ((with_reducible refine bset ?_ ?_ _); rotate_left; focus (first | (with_reducible exact Nat.le_refl _) | (simp; done) | (simp; omega) | omega)) | (with_reducible refine bstep (by with_reducible assumption) ?_))))
        simp [results, Try.results40, go_sem]
      · have g5 : decide ((1024 : Int) < (n : Int)) = true := by have h := HG.out; simp at h ⊢; omega
        go_wp2
        refine bodyPost_ret (v := _) ?_ rfl (RetP.no (by repeat (first | (with_reducible exact Below.refl _ _) | (with_reducible refine balloc ?_ _) | (with_reducible refine Below.drew ?_) | (with_reducible refine bdrewN ?_ _) | ((with_reducible refine bset ?_ ?_ _); rotate_left; focus (first | (with_reducible exact Nat.le_refl _) | (simp; done) | (simp; omega) | omega)) | (with_reducible refine bstep (by with_reducible assumption) ?_))))
        simp [results, Try.results40, go_sem]
end Go.Proofs.Ytiaeaegocfmjhaa
