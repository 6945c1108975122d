/-
  A region that draws its order of evaluation, walked once: operations that yield one value in every world of a class are taken first, the others in their chain, a tail of stores behind them. Plain theorem on the model, no program.
-/
import Derived.WalkKit
import Derived.OrdersHeld
import Derived.StillTail
import Derived.Deep.RegionHeld3
import Derived.KernelRfl
namespace Go.Proofs.Ytiaeaegocfmjhaa

section
variable {P : Program} {ops : Array Oper} {Q : Exit → Act → World → Prop} {md : Region.Mode} {S : World → Prop}

/-- A walk of a region in one given order: a pair (i, true) is an operation that yields one value in every world of S, (i, false) one that is carried out where it stands. -/
def wpGo (P : Program) (ops : Array Oper) (Q : Exit → Act → World → Prop) (S : World → Prop) (T : Act → World → Prop) : List (Nat × Bool) → Act → World → Prop
  | [], a, w => T a w
  | (i, true) :: r, a, w => ∃ oi v, ops[i]? = some oi ∧ YieldsIf P ops S oi v a ∧ wpGo P ops Q S T r (a.put oi.dst v) w
  | (i, false) :: r, a, w => wpOp P ops Q i (fun a' w' => S w' ∧ wpGo P ops Q S T r a' w') a w

/-- The order is one that the region lets: checked by the kernel. -/
def ordB (md : Region.Mode) (ops : Array Oper) (n : Nat) : List (Nat × Bool) → Array Bool → Bool
  | [], listed => Region.seqB md ops (ops.size - n) n listed
  | (i, true) :: r, listed => decide (i < n) && (Region.ready md ops listed).contains i && Region.free md ops listed i && ordB md ops n r (listed.setIfInBounds i true)
  | (i, false) :: r, listed => decide (i < n) && decide (Region.ready md ops listed = [i]) && ordB md ops n r (listed.setIfInBounds i true)

def goB (ops : Array Oper) (n : Nat) (ord : List (Nat × Bool)) : Bool :=
  Region.noSelect ops && (decide (n = ops.size) || (decide (n < ops.size) && Region.sinkB .any ops n && Region.chainB .any ops n)) && decide (ord.length = n) && ordB .any ops n ord (Array.replicate ops.size false)

/-- The head's operations in whatever order, S kept; L behind them. -/
def wpHead (P : Program) (md : Region.Mode) (ops : Array Oper) (Q : Exit → Act → World → Prop) (S : World → Prop) (n : Nat) (L : Array Bool → Act → World → Prop) : Nat → Array Bool → Act → World → Prop
  | 0, listed, a, w => L listed a w
  | f + 1, listed, a, w => Region.ready md ops listed ≠ [] ∧ ∀ i ∈ Region.ready md ops listed, i < n ∧ wpOp P ops Q i (fun a' w' => S w' ∧ wpHead P md ops Q S n L f (listed.setIfInBounds i true) a' w') a w

theorem wpAny_of_wpHead {n g : Nat} {L : Array Bool → Act → World → Prop} (hL : ∀ listed a w, L listed a w → wpAny P md ops Q g listed a w) :
    ∀ (f : Nat) (listed : Array Bool) (a : Act) (w : World), wpHead P md ops Q S n L f listed a w → wpAny P md ops Q (f + g) listed a w
  | 0, listed, a, w, h => by rw [Nat.zero_add]; exact hL _ _ _ h
  | f + 1, listed, a, w, h => by
    rw [show f + 1 + g = (f + g) + 1 by omega]
    exact ⟨fun h0 => absurd h0 h.1, fun i hi => wpOp_mono (fun a' w' h' => wpAny_of_wpHead hL f _ a' w' h'.2) (h.2 i hi).2⟩

/-- While an operation of the head is open, none of the tail may come up. -/
theorem head_only {n : Nat} (hT : n = ops.size ∨ (n < ops.size ∧ Region.sinkB md ops n = true ∧ Region.chainB md ops n = true)) {listed : Array Bool} (inv : HeadInv md ops n listed)
    {i : Nat} (hin : i < n) (hun : listed.getD i true = false) {j : Nat} (hj : j ∈ Region.ready md ops listed) : j < n := by
  rcases hT with hT | ⟨hn, hs, hc⟩
  · obtain ⟨_, oj, hoj, _⟩ := mem_ready.1 hj
    have := (Array.getElem?_eq_some_iff.1 hoj).1
    omega
  · rcases Nat.lt_or_ge j n with h | h
    · exact h
    · exact absurd hj (tail_waits hs hc hn inv _ i rfl hin hun j h)

theorem wpHead_first {n i : Nat} {oi : Oper} {v : Value} {L : Array Bool → Act → World → Prop} (hi : ops[i]? = some oi) (hsel : ∀ (j : Nat) (o : Oper) cs b, ops[j]? = some o → o.op ≠ .select cs b)
    (hT : n = ops.size ∨ (n < ops.size ∧ Region.sinkB md ops n = true ∧ Region.chainB md ops n = true)) (hin : i < n)
    (hQ : ∀ c a w, Q (.panic c) (a.put oi.dst v) w → Q (.panic c) a w)
    (hdone : ∀ listed a w, L listed a w → ∀ j ∈ Region.ready md ops listed, n ≤ j) :
    ∀ (f : Nat) (listed : Array Bool) (a : Act) (w : World), HeadInv md ops n listed →
      (∀ j oj, ops[j]? = some oj → j ≠ i → listed.getD j true = false → (∀ e ∈ oj.after, Region.binds md e = true → e.on ≠ i) → oi.apart ops oj = true) →
      i ∈ Region.ready md ops listed → YieldsIf P ops S oi v a → S w →
      wpHead P md ops Q S n L f (listed.setIfInBounds i true) (a.put oi.dst v) w → wpHead P md ops Q S n L (f + 1) listed a w := by
  intro f
  induction f with
  | zero =>
    intro listed a w inv _ hr hy hS H
    have hun := (mem_ready.1 hr).1
    refine ⟨fun h => (by rw [h] at hr; cases hr), fun j hj => ⟨head_only hT inv hin hun hj, ?_⟩⟩
    by_cases hji : j = i
    · subst hji; exact hy.wpOp hi hS ⟨hS, H⟩
    · have h1 := hdone _ _ _ H j (ready_mono hj hji)
      have h2 := head_only hT inv hin hun hj
      omega
  | succ f ih =>
    intro listed a w inv hfree hr hy hS H
    have hun := (mem_ready.1 hr).1
    refine ⟨fun h => (by rw [h] at hr; cases hr), fun j hj => ⟨head_only hT inv hin hun hj, ?_⟩⟩
    have hjn := head_only hT inv hin hun hj
    by_cases hji : j = i
    · subst hji; exact hy.wpOp hi hS ⟨hS, H⟩
    · have h1 := (H.2 j (ready_mono hj hji)).2
      obtain ⟨hjun, oj, hoj, hall⟩ := mem_ready.1 hj
      have hnot : ∀ e ∈ oj.after, Region.binds md e = true → e.on ≠ i := fun e he hb heq => by
        have h1 := hall e he hb
        rw [heq, getD_both hun] at h1
        cases h1
      have h2 := wpOp_putIf hoj (hfree j oj hoj hji hjun hnot) (fun cs b => hsel i oi cs b hi) (fun cs b => hsel j oj cs b hoj) hQ hy h1
      have hfree' : ∀ k ok, ops[k]? = some ok → k ≠ i → (listed.setIfInBounds j true).getD k true = false →
          (∀ e ∈ ok.after, Region.binds md e = true → e.on ≠ i) → oi.apart ops ok = true := fun k ok hk hki hun hno => by
        refine hfree k ok hk hki ?_ hno
        by_cases hjk : j = k
        · subst hjk; exact hjun
        · rw [getD_set_ne true hjk] at hun; exact hun
      refine wpOp_mono (fun a' w' h3 => ⟨h3.2.1, ih (listed.setIfInBounds j true) a' w' (inv.set hj hjn) hfree' (ready_mono hr (Ne.symm hji)) h3.1 h3.2.1 ?_⟩) h2
      rw [Array.setIfInBounds_comm _ _ hji]
      exact h3.2.2

theorem wpHead_ord {n : Nat} {T : Act → World → Prop} (hsel : Region.noSelect ops = true)
    (hT : n = ops.size ∨ (n < ops.size ∧ Region.sinkB md ops n = true ∧ Region.chainB md ops n = true))
    (hQ : ∀ c a d v w, Q (.panic c) (Act.put a d v) w → Q (.panic c) a w) :
    ∀ (ord : List (Nat × Bool)) (listed : Array Bool) (a : Act) (w : World), HeadInv md ops n listed → ordB md ops n ord listed = true → S w → wpGo P ops Q S T ord a w →
      wpHead P md ops Q S n (fun listed' a' w' => Region.seqB md ops (ops.size - n) n listed' = true ∧ T a' w') ord.length listed a w
  | [], listed, a, w, _, hB, _, h => ⟨by simpa [ordB] using hB, h⟩
  | (i, true) :: r, listed, a, w, inv, hB, hS, h => by
    simp only [ordB, Bool.and_eq_true, decide_eq_true_eq] at hB
    obtain ⟨⟨⟨hin, hr⟩, hf⟩, hB'⟩ := hB
    obtain ⟨oi, v, ho, hy, h'⟩ := h
    have hr' : i ∈ Region.ready md ops listed := by simpa using hr
    exact wpHead_first ho (Region.noSelect_spec hsel) hT hin (fun c a w => hQ c a _ _ w) (fun listed' a' w' hL => seqB_ready hL.1) r.length listed a w inv (Region.free_spec ho hf) hr' hy hS
      (wpHead_ord hsel hT hQ r _ _ w (inv.set hr' hin) hB' hS h')
  | (i, false) :: r, listed, a, w, inv, hB, _, h => by
    simp only [ordB, Bool.and_eq_true, decide_eq_true_eq] at hB
    obtain ⟨⟨hin, hr⟩, hB'⟩ := hB
    have hr' : i ∈ Region.ready md ops listed := by rw [hr]; simp
    refine ⟨by rw [hr]; simp, fun j hj => ?_⟩
    rw [hr] at hj
    have hji : j = i := by simpa using hj
    subst hji
    exact ⟨hin, wpOp_mono (fun a' w' h' => ⟨h'.1, wpHead_ord hsel hT hQ r _ a' w' (inv.set hr' hin) hB' h'.1 h'.2⟩) h⟩

/-- **A region that draws its order, walked once**: the head in the order 'ord', the tail (from n on) as it stands. -/
theorem wp_region_go {id : Nat} {a : Act} {w : World} {l : List Oper} (n : Nat) (ord : List (Nat × Bool)) (S : World → Prop) (hm : P.follows .mixedOrders = true) (hB : goB l.toArray n ord = true)
    (hQ : ∀ c a d v w, Q (.panic c) (Act.put a d v) w → Q (.panic c) a w) (hS : S w.drew)
    (h : wpGo P l.toArray Q S (wpList P l.toArray Q (l.drop n)) ord a w.drew) : (Code.region id l.toArray true).wp P Q a w := by
  simp only [goB, Bool.and_eq_true, Bool.or_eq_true, decide_eq_true_eq] at hB
  obtain ⟨⟨⟨hsel, hT⟩, hlen⟩, hord⟩ := hB
  have hT' : n = l.toArray.size ∨ (n < l.toArray.size ∧ Region.sinkB .any l.toArray n = true ∧ Region.chainB .any l.toArray n = true) := hT.imp (fun h => h) fun h => ⟨h.1.1, h.1.2, h.2⟩
  have hn : n ≤ l.toArray.size := by rcases hT' with h | h <;> omega
  have hdl : (l.drop n).length = l.toArray.size - n := by simp
  have inv0 : HeadInv .any l.toArray n (Array.replicate l.toArray.size false) :=
    ⟨by simp, fun j oj _ hl => (by rw [getD_replicate_false] at hl; cases hl), fun t _ ht => getD_in (by simpa using ht) (getD_replicate_false _ _)⟩
  have H := wpHead_ord (md := .any) hsel hT' hQ ord _ a w.drew inv0 hord hS h
  refine wp_region_any hm ?_
  have := wpAny_of_wpHead (Q := Q) (g := l.toArray.size - n) (fun listed a' w' hL => by
    have := wpAny_of_seq (md := .any) (Q' := Q) (l.drop n) n listed a' w' (fun j => by simp [List.getElem?_drop]) (by rw [hdl]; exact hL.1) hL.2
    rwa [hdl] at this) _ _ _ _ H
  rw [hlen, show n + (l.toArray.size - n) = l.toArray.size by omega] at this
  exact this

/-- The same, at the class 'what lay at the region's head lies as it lay'. -/
theorem wp_region_gob {id : Nat} {a : Act} {w : World} {l : List Oper} (n : Nat) (ord : List (Nat × Bool)) (hm : P.follows .mixedOrders = true) (hB : goB l.toArray n ord = true)
    (hQ : ∀ c a d v w, Q (.panic c) (Act.put a d v) w → Q (.panic c) a w)
    (h : wpGo P l.toArray Q (fun w' => RowKit.Below w.heap.size w w') (wpList P l.toArray Q (l.drop n)) ord a w.drew) : (Code.region id l.toArray true).wp P Q a w :=
  wp_region_go n ord _ hm hB hQ (RowKit.Below.refl _ _).drew h

theorem wpGo_nil {T : Act → World → Prop} {a : Act} {w : World} (h : T a w) : wpGo P ops Q S T [] a w := h

/-- One operation that yields v in every world of S. -/
theorem wpGo_pure {T : Act → World → Prop} {i : Nat} {dst : Option Tmp} {op : Op} {ty : TypeId} {pos : String} {aft : Array Edge} {gd : Option (Nat × Bool)} {r : List (Nat × Bool)} {a : Act} {w : World} (ho : ops[i]? = some ⟨dst, op, ty, pos, aft, gd⟩) {v : Value}
    (hg : Region.wanted ⟨dst, op, ty, pos, aft, gd⟩ (yielded ops a.tmps) = true) (hy : ∀ w', S w' → (execOp a.eval ⟨dst, op, ty, pos, aft, gd⟩).run P w' = .ok (.value v) w')
    (h : wpGo P ops Q S T r (a.put dst v) w) : wpGo P ops Q S T ((i, true) :: r) a w :=
  ⟨_, v, ho, .inl ⟨hg, hy⟩, h⟩

theorem wpGo_skip {T : Act → World → Prop} {i : Nat} {dst : Option Tmp} {op : Op} {ty : TypeId} {pos : String} {aft : Array Edge} {gd : Option (Nat × Bool)} {r : List (Nat × Bool)} {a : Act} {w : World} (ho : ops[i]? = some ⟨dst, op, ty, pos, aft, gd⟩)
    (hg : Region.wanted ⟨dst, op, ty, pos, aft, gd⟩ (yielded ops a.tmps) = false) (h : wpGo P ops Q S T r (a.put dst undef) w) : wpGo P ops Q S T ((i, true) :: r) a w :=
  ⟨_, undef, ho, .inr ⟨hg, rfl⟩, h⟩

theorem wpGo_eff {T : Act → World → Prop} {i : Nat} {dst : Option Tmp} {op : Op} {ty : TypeId} {pos : String} {aft : Array Edge} {gd : Option (Nat × Bool)} {r : List (Nat × Bool)} {a : Act} {w : World} (ho : ops[i]? = some ⟨dst, op, ty, pos, aft, gd⟩)
    (h : ∀ K : Act → World → Prop, Shut (∀ a w, S w → (S w → wpGo P ops Q S T r a w) → K a w) → if Region.wanted ⟨dst, op, ty, pos, aft, gd⟩ (yielded ops a.tmps) = true then Oper.wp P ⟨dst, op, ty, pos, aft, gd⟩ a w K Q else K (a.put dst undef) w) :
    wpGo P ops Q S T ((i, false) :: r) a w := by
  have h' := h (fun a' w' => S w' ∧ wpGo P ops Q S T r a' w') (fun a w hS hW => ⟨hS, hW hS⟩)
  show wpOp P ops Q i _ a w
  unfold wpOp
  simp only [ho]
  split
  · rename_i hw; rw [if_pos hw] at h'; exact .inl h'
  · rename_i hw; rw [if_neg hw] at h'; exact h'
end
end Go.Proofs.Ytiaeaegocfmjhaa
