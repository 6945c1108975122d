/-
  Plain laws on packing: prefixes, taller pages, disjointness.
-/
import Derived.Test.YtiaeaegocfmjhaaPackP
import Derived.Test.YtiaeaegocfmjhaaRectQ
namespace Go.Proofs.Ytiaeaegocfmjhaa

theorem packR_parts {w h : Int} {l : List (Int × Int)} {os : List Rc} (hp : packR w h l = some os) : sideB w = true ∧ sideB h = true ∧ l.length ≤ 1024 ∧ (∀ z ∈ l, sizeB z = true) ∧ ∃ ss nx, runP w h l = some (os, ss, nx) := by
  unfold packR at hp
  split at hp
  · rename_i hc
    simp only [Bool.and_eq_true, decide_eq_true_eq] at hc
    cases hr : runP w h l with
    | none => rw [hr] at hp; cases hp
    | some q =>
      obtain ⟨o, ss, nx⟩ := q
      rw [hr] at hp
      simp only [Option.map_some, Option.some.injEq] at hp
      subst hp
      exact ⟨hc.1.1.1, hc.1.1.2, hc.1.2, List.all_eq_true.1 hc.2, ss, nx, rfl⟩
  · cases hp
theorem packR_mk {w h : Int} {l : List (Int × Int)} {os : List Rc} {ss : List Sf} {nx : Int} (h1 : sideB w = true) (h2 : sideB h = true) (h3 : l.length ≤ 1024) (h4 : ∀ z ∈ l, sizeB z = true) (h5 : runP w h l = some (os, ss, nx)) : packR w h l = some os := by
  unfold packR
  rw [h1, h2, List.all_eq_true.2 h4, h5]
  simp [h3]

theorem fold_prefix {w h : Int} : ∀ (l : List (Int × Int)) (o : List Rc) (ss : List Sf) (nx : Int) (q : List Rc × List Sf × Int), l.foldl (stepP w h) (some (o, ss, nx)) = some q → ∃ o2, q.1 = o ++ o2
  | [], o, ss, nx, q, hq => by simp only [List.foldl_nil, Option.some.injEq] at hq; subst hq; exact ⟨[], by simp⟩
  | z :: l, o, ss, nx, q, hq => by
    simp only [List.foldl_cons, stepP] at hq
    cases hp : placeP w h ss nx z.1 z.2 with
    | none => rw [hp] at hq; simp only [foldl_none] at hq; cases hq
    | some p =>
      obtain ⟨r, ss', nx'⟩ := p
      rw [hp] at hq
      obtain ⟨o2, h2⟩ := fold_prefix l _ _ _ _ hq
      exact ⟨r :: o2, by rw [h2]; simp⟩

theorem pack_take {w h : Int} {l : List (Int × Int)} {os : List Rc} (hp : packR w h l = some os) (n : Nat) : packR w h (l.take n) = some (os.take n) := by
  obtain ⟨h1, h2, h3, h4, ss, nx, h5⟩ := packR_parts hp
  by_cases hn : n ≤ l.length
  · have e : runP w h l = (l.drop n).foldl (stepP w h) (runP w h (l.take n)) := by unfold runP; rw [← List.foldl_append, List.take_append_drop]
    rw [h5] at e
    cases hr : runP w h (l.take n) with
    | none => rw [hr, foldl_none] at e; cases e
    | some q =>
      obtain ⟨o, ss', nx'⟩ := q
      rw [hr] at e
      obtain ⟨o2, ho⟩ := fold_prefix _ _ _ _ _ e.symm
      have hl := run_len n l o ss' nx' hn hr
      have ho' : os = o ++ o2 := ho
      rw [packR_mk h1 h2 (by rw [List.length_take]; omega) (fun z hz => h4 z (List.mem_of_mem_take hz)) hr, ho', List.take_left' hl.1]
  · have hl := run_len l.length l os ss nx (Nat.le_refl _) (by rw [List.take_length]; exact h5)
    rw [List.take_of_length_le (by omega), List.take_of_length_le (by omega)]
    exact hp

theorem place_taller {w h t : Int} (ht : h ≤ t) {ss : List Sf} {nx X Y : Int} {q : Rc × List Sf × Int} (hp : placeP w h ss nx X Y = some q) : placeP w t ss nx X Y = some q := by
  unfold placeP at hp ⊢
  split at hp
  · cases hp
  · rename_i hw
    rw [if_neg hw]
    cases hf : ss.findIdx? (fitsB w X Y) with
    | some i => rw [hf] at hp; exact hp
    | none =>
      rw [hf] at hp
      simp only at hp ⊢
      split at hp
      · cases hp
      · rw [if_neg (by omega)]; exact hp
theorem fold_taller {w h t : Int} (ht : h ≤ t) : ∀ (l : List (Int × Int)) (st q : List Rc × List Sf × Int), l.foldl (stepP w h) (some st) = some q → l.foldl (stepP w t) (some st) = some q
  | [], st, q, hq => hq
  | z :: l, (o, ss, nx), q, hq => by
    simp only [List.foldl_cons, stepP] at hq ⊢
    cases hp : placeP w h ss nx z.1 z.2 with
    | none => rw [hp] at hq; simp only [foldl_none] at hq; cases hq
    | some p =>
      obtain ⟨r, ss', nx'⟩ := p
      rw [hp] at hq
      rw [place_taller ht hp]
      exact fold_taller ht l _ _ hq
theorem pack_taller {w h t : Int} {l : List (Int × Int)} {os : List Rc} (hp : packR w h l = some os) (h0 : h ≤ t) (h1 : t ≤ 4096) : packR w t l = some os := by
  obtain ⟨s1, s2, s3, s4, ss, nx, s5⟩ := packR_parts hp
  refine packR_mk s1 ?_ s3 s4 (fold_taller h0 l _ _ s5)
  have := sideB_true s2
  simp [sideB]; omega

/-- Two rectangles that share no pixel. -/
def apartR (p q : Rc) : Prop := p.x1 ≤ q.x0 ∨ q.x1 ≤ p.x0 ∨ p.y1 ≤ q.y0 ∨ q.y1 ≤ p.y0
def onShelf (r : Rc) (s : Sf) : Prop := s.t ≤ r.y0 ∧ r.y1 ≤ s.t + s.h ∧ r.x1 ≤ s.u
structure Laid (w h : Int) (o : List Rc) (ss : List Sf) (nx : Int) : Prop where
  ok : ShOk w h ss nx
  sep : ss.Pairwise (fun s s' => s.t + s.h ≤ s'.t)
  page : ∀ r ∈ o, 0 ≤ r.x0 ∧ r.x0 < r.x1 ∧ r.x1 ≤ w ∧ 0 ≤ r.y0 ∧ r.y0 < r.y1 ∧ r.y1 ≤ h
  on : ∀ r ∈ o, ∃ i, ∃ hi : i < ss.length, onShelf r ss[i]
  apart : o.Pairwise (fun p q => apartR p q)

theorem laid_place {w h : Int} {o : List Rc} {ss ss' : List Sf} {nx nx' X Y : Int} {r : Rc} (hl : Laid w h o ss nx) (hX : 1 ≤ X) (hY : 1 ≤ Y) (hp : placeP w h ss nx X Y = some (r, ss', nx')) : Laid w h (o ++ [r]) ss' nx' ∧ r.x1 - r.x0 = X ∧ r.y1 - r.y0 = Y := by
  have hok := place_ok hl.ok hX hY hp
  unfold placeP at hp
  by_cases hw : w < X
  · rw [if_pos hw] at hp; cases hp
  · rw [if_neg hw] at hp
    cases hf : ss.findIdx? (fitsB w X Y) with
    | some i =>
      rw [hf] at hp
      obtain ⟨hi, hfit⟩ := find_some hf
      have hg : ss.getD i ⟨0, 0, 0⟩ = ss[i] := by rw [List.getD_eq_getElem?_getD, List.getElem?_eq_getElem hi]; rfl
      simp only [hg] at hp
      rw [hg] at hfit
      simp only [Option.some.injEq, Prod.mk.injEq] at hp
      obtain ⟨rfl, rfl, rfl⟩ := hp
      have hm := hl.ok.all _ (List.getElem_mem hi)
      have hn1 := hl.ok.n1
      simp [fitsB] at hfit
      refine ⟨⟨hok, ?_, ?_, ?_, ?_⟩, by simp only; omega, by simp only; omega⟩
      · rw [List.pairwise_iff_getElem]
        intro a b ha hb hab
        simp only [List.length_set] at ha hb
        have := List.pairwise_iff_getElem.1 hl.sep a b ha hb hab
        rw [List.getElem_set, List.getElem_set]
        split <;> split <;> rename_i e1 e2 <;> simp_all
      · intro p hpm
        rcases List.mem_append.1 hpm with hpm | hpm
        · exact hl.page p hpm
        · have : p = _ := List.mem_singleton.1 hpm
          subst this
          simp only
          omega
      · intro p hpm
        rcases List.mem_append.1 hpm with hpm | hpm
        · obtain ⟨k, hk, hon⟩ := hl.on p hpm
          refine ⟨k, by simpa using hk, ?_⟩
          rw [List.getElem_set]
          split
          · rename_i e; subst e
            exact ⟨hon.1, hon.2.1, by have := hon.2.2; simp only; omega⟩
          · exact hon
        · have : p = _ := List.mem_singleton.1 hpm
          subst this
          refine ⟨i, by simpa using hi, ?_⟩
          rw [List.getElem_set_self]
          refine ⟨?_, ?_, ?_⟩ <;> simp only <;> omega
      · rw [List.pairwise_append]
        refine ⟨hl.apart, List.pairwise_singleton _ _, fun p hpm q hq => ?_⟩
        have : q = _ := List.mem_singleton.1 hq
        subst this
        obtain ⟨k, hk, h1, h2, h3⟩ := hl.on p hpm
        unfold apartR
        simp only
        rcases Nat.lt_trichotomy k i with e | e | e
        · have := List.pairwise_iff_getElem.1 hl.sep k i hk hi e
          omega
        · subst e; omega
        · have := List.pairwise_iff_getElem.1 hl.sep i k hi hk e
          omega
    | none =>
      rw [hf] at hp
      simp only at hp
      by_cases hh : h - nx < Y
      · rw [if_pos hh] at hp; cases hp
      · rw [if_neg hh] at hp
        simp only [Option.some.injEq, Prod.mk.injEq] at hp
        obtain ⟨rfl, rfl, rfl⟩ := hp
        have h0 := hl.ok.n0
        refine ⟨⟨hok, ?_, ?_, ?_, ?_⟩, by simp only; omega, by simp only; omega⟩
        · rw [List.pairwise_append]
          refine ⟨hl.sep, List.pairwise_singleton _ _, fun s hs q hq => ?_⟩
          have : q = _ := List.mem_singleton.1 hq
          subst this
          have := hl.ok.all s hs
          simp only; omega
        · intro p hpm
          rcases List.mem_append.1 hpm with hpm | hpm
          · exact hl.page p hpm
          · have : p = _ := List.mem_singleton.1 hpm
            subst this
            simp only
            omega
        · intro p hpm
          rcases List.mem_append.1 hpm with hpm | hpm
          · obtain ⟨k, hk, hon⟩ := hl.on p hpm
            refine ⟨k, by simp; omega, ?_⟩
            rw [List.getElem_append_left hk]
            exact hon
          · have : p = _ := List.mem_singleton.1 hpm
            subst this
            refine ⟨ss.length, by simp, ?_⟩
            rw [List.getElem_append_right (Nat.le_refl _)]
            simp only [Nat.sub_self, List.getElem_cons_zero]
            refine ⟨?_, ?_, ?_⟩ <;> simp only <;> omega
        · rw [List.pairwise_append]
          refine ⟨hl.apart, List.pairwise_singleton _ _, fun p hpm q hq => ?_⟩
          have : q = _ := List.mem_singleton.1 hq
          subst this
          obtain ⟨k, hk, h1, h2, h3⟩ := hl.on p hpm
          have := hl.ok.all _ (List.getElem_mem hk)
          unfold apartR
          simp only
          omega

/-- The sizes are those that were given. -/
def sizesL (o : List Rc) (l : List (Int × Int)) : Prop := o.map (fun r => (r.x1 - r.x0, r.y1 - r.y0)) = l

theorem run_laid {w h : Int} (hh : 0 ≤ h) : ∀ (k : Nat) (l : List (Int × Int)) (o : List Rc) (ss : List Sf) (nx : Int), k ≤ l.length → (∀ z ∈ l.take k, sizeB z = true) → runP w h (l.take k) = some (o, ss, nx) → Laid w h o ss nx ∧ sizesL o (l.take k)
  | 0, l, o, ss, nx, _, _, h' => by
    simp only [runP, List.take_zero, List.foldl_nil, Option.some.injEq, Prod.mk.injEq] at h'
    obtain ⟨rfl, rfl, rfl⟩ := h'
    exact ⟨⟨⟨by omega, hh, fun s hs => absurd hs (by simp)⟩, List.Pairwise.nil, fun r hr => absurd hr (by simp), fun r hr => absurd hr (by simp), List.Pairwise.nil⟩, rfl⟩
  | k + 1, l, o, ss, nx, hk, hz, h' => by
    rw [run_take _ _ _ (by omega)] at h'
    cases hr : runP w h (l.take k) with
    | none => rw [hr] at h'; cases h'
    | some q =>
      obtain ⟨o0, ss0, nx0⟩ := q
      have hz0 : ∀ z ∈ l.take k, sizeB z = true := fun z hm => hz z (by rw [List.take_succ_eq_append_getElem (by omega)]; exact List.mem_append_left _ hm)
      have i1 := run_laid hh k l o0 ss0 nx0 (by omega) hz0 hr
      rw [hr] at h'
      simp only [stepP] at h'
      cases hp : placeP w h ss0 nx0 (l[k]'(by omega)).1 (l[k]'(by omega)).2 with
      | none => rw [hp] at h'; cases h'
      | some q =>
        obtain ⟨r, ss1, nx1⟩ := q
        rw [hp] at h'
        simp only [Option.some.injEq, Prod.mk.injEq] at h'
        obtain ⟨rfl, rfl, rfl⟩ := h'
        have hs := hz (l[k]'(by omega)) (by rw [List.take_succ_eq_append_getElem (by omega)]; exact List.mem_append_right _ (by simp))
        simp only [sizeB, Bool.and_eq_true] at hs
        obtain ⟨h1, h2, h3⟩ := laid_place i1.1 (sideB_true hs.1).1 (sideB_true hs.2).1 hp
        refine ⟨h1, ?_⟩
        unfold sizesL
        rw [List.take_succ_eq_append_getElem (by omega), List.map_append, i1.2]
        simp only [List.map_cons, List.map_nil, h2, h3]

theorem pack_laid {w h : Int} {l : List (Int × Int)} {os : List Rc} (hp : packR w h l = some os) : sideB w = true ∧ sideB h = true ∧ os.length = l.length ∧
    (∀ r ∈ os, 0 ≤ r.x0 ∧ r.x0 < r.x1 ∧ r.x1 ≤ w ∧ 0 ≤ r.y0 ∧ r.y0 < r.y1 ∧ r.y1 ≤ h) ∧ os.Pairwise (fun p q => apartR p q) ∧ sizesL os l := by
  obtain ⟨s1, s2, s3, s4, ss, nx, s5⟩ := packR_parts hp
  have hl := run_len l.length l os ss nx (Nat.le_refl _) (by rw [List.take_length]; exact s5)
  have := run_laid (w := w) (h := h) (by have := sideB_true s2; omega) l.length l os ss nx (Nat.le_refl _) (fun z hz => s4 z (List.mem_of_mem_take hz)) (by rw [List.take_length]; exact s5)
  rw [List.take_length] at this
  exact ⟨s1, s2, hl.1, this.1.page, this.1.apart, this.2⟩

theorem inter_apart {p q : Rc} (h : apartR p q) : emptyB (interR p q) = true := by
  cases he : emptyB (interR p q) with
  | true => rfl
  | false =>
    obtain ⟨h1, h2, h3⟩ := inter_full he
    rw [h3] at he
    have := emptyB_false he
    unfold apartR at h
    simp only at this
    omega
end Go.Proofs.Ytiaeaegocfmjhaa
