/-
  A loop over a function value whose function runs loops of the same kind itself: one round, then the statement.
-/
import Derived.RangeFuncNested
import Derived.RangeFuncLeaves
import Derived.RangeFuncBound
import Derived.Shelf.RegionOpen
import Derived.WalkKit
import Derived.Test.YtiaeaegocfmjhaaBase
import Derived.Test.YtiaeaegocfmjhaaProg
namespace Go.Proofs.Ytiaeaegocfmjhaa
open Go.RowKit
set_option linter.unusedVariables false

section
variable {F : Fence} {n m : Nat} {P : Program}
/-- How a round's body ends: it falls off its end, or breaks out of block i. -/
def endsR (i l : Nat) (r : Loop) (R : Bool → World → Prop) (e : Exit) (_ : Act) (X : World) : Prop :=
  X.heap[l]? = some (.loop { r with state := .busy }) ∧
    ((e = .normal ∧ R true (X.putObj l (.loop { r with state := .ready, pending := none }))) ∨
     (e = .exit i ∧ R false (X.putObj l (.loop { r with state := .done, pending := some (.exit i) }))))
theorem yield_round {i l : Nat} {r : Loop} {v : Value} {W : World} {R : Bool → World → Prop} (hl : W.heap[l]? = some (.loop r)) (hs : r.state = .ready) (hp : r.params.size = 1) (hf : F.fn r.fn)
    (h : r.assign.wpIn (F.inRound l) m P (Exit.then (fun a1 X => X.heap[l]? = some (.loop r) ∧ r.body.wpIn (F.inRound l) m P (endsR i l r R) a1 (X.putObj l (.loop { r with state := .busy }))) (fun _ _ _ => False))
      { tmps := (r.params.zip #[v]).foldl (fun t (p, v) => t.setIfInBounds p v) r.tmps, defers := [] } W) :
    YieldAt F m P l #[v] W fun e X => ∃ b, e = .returned (.bool b) ∧ R b X := by
  refine ⟨r.fn, _, r.assign, r.body, run_yield hl (by rw [hp]; rfl), roundIn_of_wpIn hf (wpIn_mono h ?_)⟩
  intro e a X hX
  cases e with
  | normal =>
    obtain ⟨hl1, hb⟩ := hX
    refine ⟨_, run_beginRound hl1 hs, wpIn_mono hb ?_⟩
    rintro e2 a2 Y ⟨hl2, ⟨rfl, hR⟩ | ⟨rfl, hR⟩⟩
    · exact ⟨_, _, run_endRound none hl2, true, rfl, hR⟩
    · exact ⟨_, _, run_endRound (some (.exit i)) hl2, false, rfl, hR⟩
  | exit id => exact hX.elim
  | goto t => exact hX.elim
  | ret => exact hX.elim
  | panic c => exact hX.elim
  | outgrown => exact hX.elim
/-- The post of a body, as its author wants it. -/
def leftR (i B : Nat) (Kp : World → World → Prop) (I Ix : World → Prop) (W X0 : World) (e : Exit) (_ : Act) (X : World) : Prop :=
  KeepsFrom B X0 X ∧ Kp W X ∧ ((e = .normal ∧ I X) ∨ (e = .exit i ∧ Ix X))
theorem loop_own {α : Type} {g : Operand} {ps : Array Tmp} {assign body : Code} {Q : Exit → Act → World → Prop} {a : Act} {w : World} (hro : F.round = none) (h1 : 1 ≤ n) {gf : Nat} {lb : Array Value}
    (hg : a.eval g = .func (.func gf) #[] lb) (hFg : F.fn gf) (eg : ∀ args w, (callFunc gf args).run P w = .ok (.enter gf args) w) (enc : α → Value) (hps : ps.size = 1) (xs : List α) (i : Nat) (Kp : World → World → Prop)
    (hKt : ∀ X Y Z, Kp X Y → Kp Y Z → Kp X Z) (hKb : ∀ X l o o', l < w.heap.size + 2 → X.heap[l]? = some o → o.isCells = false → Kp X (X.putObj l o'))
    (I Ix : List α → World → Prop) (hI : OwnFrom w.heap.size I) (hIx : OwnFrom w.heap.size Ix)
    (hseq : ∀ (l : Nat) (J Jx : List α → World → Prop) (W : World), Below w.heap.size w W → W.heap.size = w.heap.size + 2 → OwnFrom W.heap.size J → OwnFrom W.heap.size Jx →
      (∀ pre x X, J pre X → pre.length < xs.length → YieldAt F m P l #[enc x] X fun e Y => Kp X Y ∧ ((e = .returned (.bool true) ∧ J (pre ++ [x]) Y) ∨ (e = .returned (.bool false) ∧ Jx (pre ++ [x]) Y))) → J [] W →
      CallsIn F (n - 1) P gf (#[.func (.yield l) #[] #[]] ++ lb) W fun e Y => (∃ v, e = .returned v) ∧ (J xs Y ∨ ∃ pre, pre <+: xs ∧ Jx pre Y))
    (h0 : I [] w)
    (hround : ∀ l pre x X, w.heap.size ≤ l → l < w.heap.size + 2 → (∃ r, X.heap[l]? = some (.loop r)) → I pre X → pre.length < xs.length →
      assign.wpIn (F.inRound l) m P (Exit.then (fun a1 Y => KeepsFrom w.heap.size X Y ∧ ∀ o', body.wpIn (F.inRound l) m P (leftR i w.heap.size Kp (I (pre ++ [x])) (Ix (pre ++ [x])) X (Y.putObj l (.loop o'))) a1 (Y.putObj l (.loop o'))) (fun _ _ _ => False))
        { tmps := (ps.zip #[enc x]).foldl (fun t (p, v) => t.setIfInBounds p v) a.tmps, defers := [] } X)
    (hdone : ∀ Y, I xs Y → Y.heap[w.heap.size]? = some (.deferred (some [])) → Q .normal { a with defers := { target := .collected w.heap.size, args := #[] } :: a.defers } Y)
    (hstop : ∀ pre Y, pre <+: xs → Ix pre Y → Y.heap[w.heap.size]? = some (.deferred (some [])) → (Code.exit i).wpIn F n P Q { a with defers := { target := .collected w.heap.size, args := #[] } :: a.defers } Y) :
    (Code.rangeFunc g ps assign body).wpIn F n P Q a w := by
  refine wpIn_rangeFunc fun fn hfn => ?_
  rw [hro]
  obtain ⟨mk, hmk⟩ : ∃ mk : LoopState → Option Code → Loop, mk = fun st pe => { state := st, pending := pe, fn, tmps := a.tmps, params := ps, assign, body, defers := w.heap.size } := ⟨_, rfl⟩
  obtain ⟨X0, hX0⟩ : ∃ X0, (w.alloc (.deferred (some []))).alloc (.loop (mk .ready none)) = X0 := ⟨_, rfl⟩
  have s0 : X0.heap.size = w.heap.size + 2 := by rw [← hX0]; simp
  have b0 : Below w.heap.size w X0 := by rw [← hX0]; exact ((Below.refl _ w).alloc (Nat.le_refl _) _).alloc (by simp) _
  have d0 : X0.heap[w.heap.size]? = some (.deferred (some [])) := by
    rw [← hX0]; exact (Below.heap_alloc _ _ _ (by simp)).trans (World.alloc_heap_new w _)
  have l0 : X0.heap[w.heap.size + 1]? = some (.loop (mk .ready none)) := by
    rw [← hX0]; exact (congrArg _ (World.size_alloc w _).symm).trans (World.alloc_heap_new (w.alloc _) _)
  have i0 : I [] X0 := by rw [← hX0]; exact hI.alloc _ (hI.alloc _ h0)
  have put : ∀ {K : List α → World → Prop}, OwnFrom w.heap.size K → ∀ {s : List α} {Y : World} {r : Loop} (o : Obj), K s Y → Y.heap[w.heap.size + 1]? = some (.loop r) → Y.heap[w.heap.size]? = some (.deferred (some [])) →
      K s (Y.putObj (w.heap.size + 1) o) ∧ (Y.putObj (w.heap.size + 1) o).heap[w.heap.size + 1]? = some o ∧ (Y.putObj (w.heap.size + 1) o).heap[w.heap.size]? = some (.deferred (some [])) := fun hK s Y r o hs hl hd =>
    ⟨hK.putObj o hs (Nat.le_succ _) hl rfl, World.putObj_heap_same (Array.getElem?_eq_some_iff.1 hl).1, (World.putObj_heap_other (by omega)).trans hd⟩
  have own2 : ∀ {K : List α → World → Prop}, OwnFrom w.heap.size K → ∀ r : Loop, OwnFrom X0.heap.size fun s Y => K s Y ∧ Y.heap[w.heap.size + 1]? = some (.loop r) ∧ Y.heap[w.heap.size]? = some (.deferred (some [])) := by
    rintro K hK r s Y Z row ⟨h2, h3, h4⟩ hgr hrow
    refine ⟨hK s Y Z row h2 hgr fun j e => ⟨by have := (hrow j e).1; omega, (hrow j e).2⟩, ?_, ?_⟩
    · exact (hgr.block _ (Array.getElem?_eq_some_iff.1 h3).1 (fun e => by have := (hrow _ e.symm).1; omega)).trans h3
    · exact (hgr.block _ (Array.getElem?_eq_some_iff.1 h4).1 (fun e => by have := (hrow _ e.symm).1; omega)).trans h4
  refine ⟨w.heap.size + 1, [{ target := .collected w.heap.size, args := #[] }], X0, { target := .fn (.func gf) lb, args := #[.func (.yield (w.heap.size + 1)) #[] #[]] }, X0, gf,
    #[.func (.yield (w.heap.size + 1)) #[] #[]] ++ lb, X0, ?_, ?_, ?_, ?_, fun _ => h1, ?_⟩
  · rw [← hX0, hmk]; exact run_enterLoop_outer _ _ _ _ _
  · simp only [resolve, hg]
    simp [go_sem]
  · intro f' hf'; simp [Target.leads] at hf'; subst hf'; exact hFg
  · simp [invoke, go_sem, eg]
  refine (hseq (w.heap.size + 1) _ _ X0 b0 s0 (own2 hI (mk .ready none)) (own2 hIx (mk .done (some (.exit i)))) ?_ ⟨i0, l0, d0⟩).mono ?_
  · rintro pre x X ⟨h2, h3, h4⟩ hpre
    have hk := hround (w.heap.size + 1) pre x X (Nat.le_succ _) (Nat.lt_succ_self _) ⟨_, h3⟩ h2 hpre
    refine (yield_round (i := i) (R := fun b Y => Kp X Y ∧ ((b = true ∧ (I (pre ++ [x]) Y ∧ Y.heap[w.heap.size + 1]? = some (.loop (mk .ready none)) ∧ Y.heap[w.heap.size]? = some (.deferred (some [])))) ∨ (b = false ∧ Ix (pre ++ [x]) Y ∧ Y.heap[w.heap.size + 1]? = some (.loop (mk .done (some (.exit i)))) ∧ Y.heap[w.heap.size]? = some (.deferred (some []))))) h3 (by rw [hmk]) (by rw [hmk]; exact hps) (by rw [hmk]; exact hfn) ?_).mono ?_
    · refine wpIn_mono (Q := Exit.then _ _) (by rw [hmk]; exact hk) ?_
      intro e a1 Y hY
      cases e with
      | normal =>
        obtain ⟨hkf, hb⟩ := hY
        have l1 := hkf.same _ _ (Nat.le_succ _) h3 rfl
        have e1 := hkf.same _ _ (Nat.le_refl _) h4 rfl
        refine ⟨l1, wpIn_mono (by subst hmk; exact hb { state := .busy, pending := none, fn, tmps := a.tmps, params := ps, assign, body, defers := w.heap.size }) ?_⟩
        intro e2 a2 Z hZ
        obtain ⟨hkf2, hkp, hZ⟩ := hZ
        have l2 : Z.heap[w.heap.size + 1]? = some (.loop { mk .ready none with state := .busy }) := by subst hmk; exact hkf2.same _ _ (Nat.le_succ _) (World.putObj_heap_same (Array.getElem?_eq_some_iff.1 l1).1) rfl
        have e3 := hkf2.same _ _ (Nat.le_refl _) ((World.putObj_heap_other (by omega)).trans e1) rfl
        refine ⟨l2, ?_⟩
        rcases hZ with ⟨rfl, hi⟩ | ⟨rfl, hi⟩
        · refine .inl ⟨rfl, hKt _ _ _ hkp (hKb _ _ _ _ (by omega) l2 rfl), .inl ⟨rfl, ?_⟩⟩
          rw [hmk]
          exact put hI _ hi l2 e3
        · refine .inr ⟨rfl, hKt _ _ _ hkp (hKb _ _ _ _ (by omega) l2 rfl), .inr ⟨rfl, ?_⟩⟩
          rw [hmk]
          exact put hIx _ hi l2 e3
      | exit id => exact hY.elim
      | goto t => exact hY.elim
      | ret => exact hY.elim
      | panic c => exact hY.elim
      | outgrown => exact hY.elim
    · rintro e Y ⟨b, rfl, hk, ⟨rfl, h⟩ | ⟨rfl, h⟩⟩
      · exact ⟨hk, .inl ⟨rfl, h⟩⟩
      · exact ⟨hk, .inr ⟨rfl, h⟩⟩
  · rintro e Y ⟨⟨v, rfl⟩, ⟨h2, h3, h4⟩ | ⟨pre, hpre, h2, h3, h4⟩⟩
    · obtain ⟨q1, q2, q3⟩ := put hI (.loop { mk .ready none with state := .exhausted }) h2 h3 h4
      refine ⟨none, _, by have := run_endLoop (P := P) h3 (by rw [hmk]; simp); subst hmk; exact this, hdone _ q1 q3⟩
    · obtain ⟨q1, q2, q3⟩ := put hIx (.loop { mk .done (some (.exit i)) with state := .exhausted }) h2 h3 h4
      refine ⟨some (.exit i), _, by have := run_endLoop (P := P) h3 (by rw [hmk]; simp); subst hmk; exact this, hstop _ _ hpre q1 q3⟩
end
end Go.Proofs.Ytiaeaegocfmjhaa
