/-
  A region that draws its order, walked by a plan: where two operations may come next, both ways are walked. Plain theorem on the model, no program.
-/
import Derived.Test.YtnefnnhnjmmebaaGo
namespace Go.Proofs.Ytnefnnhnjmmebaa

inductive Plan where
  | done : Plan
  | pur : Nat → Plan → Plan
  | eff : Nat → Plan → Plan
  | fork : Nat → Nat → Plan → Plan → Plan
def Plan.len : Plan → Nat
  | .done => 0
  | .pur _ p => p.len + 1
  | .eff _ p => p.len + 1
  | .fork _ _ p _ => p.len + 1

section
variable {P : Program} {ops : Array Oper} {Q : Exit → Act → World → Prop} {md : Region.Mode} {S : World → Prop}

def wpPlan (P : Program) (ops : Array Oper) (Q : Exit → Act → World → Prop) (S : World → Prop) (T : Act → World → Prop) : Plan → Act → World → Prop
  | .done, a, w => T a w
  | .pur i p, a, w => ∃ oi v, ops[i]? = some oi ∧ YieldsIf P ops S oi v a ∧ wpPlan P ops Q S T p (a.put oi.dst v) w
  | .eff i p, a, w => wpOp P ops Q i (fun a' w' => S w' ∧ wpPlan P ops Q S T p a' w') a w
  | .fork i j p q, a, w => wpOp P ops Q i (fun a' w' => S w' ∧ wpPlan P ops Q S T p a' w') a w ∧ wpOp P ops Q j (fun a' w' => S w' ∧ wpPlan P ops Q S T q a' w') a w

def planB (md : Region.Mode) (ops : Array Oper) (n : Nat) : Plan → Array Bool → Bool
  | .done, listed => Region.seqB md ops (ops.size - n) n listed
  | .pur i p, listed => decide (i < n) && (Region.ready md ops listed).contains i && Region.free md ops listed i && planB md ops n p (listed.setIfInBounds i true)
  | .eff i p, listed => decide (i < n) && decide (Region.ready md ops listed = [i]) && planB md ops n p (listed.setIfInBounds i true)
  | .fork i j p q, listed => decide (i < n) && decide (j < n) && decide (Region.ready md ops listed = [i, j]) && decide (p.len = q.len) && planB md ops n p (listed.setIfInBounds i true) && planB md ops n q (listed.setIfInBounds j true)

def planGoB (ops : Array Oper) (n : Nat) (pl : Plan) : Bool :=
  Region.noSelect ops && (decide (n = ops.size) || (decide (n < ops.size) && Region.sinkB .any ops n && Region.chainB .any ops n)) && decide (pl.len = n) && planB .any ops n pl (Array.replicate ops.size false)

theorem wpHead_plan {n : Nat} {T : Act → World → Prop} (hsel : Region.noSelect ops = true)
    (hT : n = ops.size ∨ (n < ops.size ∧ Region.sinkB md ops n = true ∧ Region.chainB md ops n = true))
    (hQ : ∀ c a d v w, Q (.panic c) (Act.put a d v) w → Q (.panic c) a w) :
    ∀ (pl : Plan) (listed : Array Bool) (a : Act) (w : World), HeadInv md ops n listed → planB md ops n pl listed = true → S w → wpPlan P ops Q S T pl a w →
      wpHead P md ops Q S n (fun listed' a' w' => Region.seqB md ops (ops.size - n) n listed' = true ∧ T a' w') pl.len listed a w
  | .done, listed, a, w, _, hB, _, h => ⟨by simpa [planB] using hB, h⟩
  | .pur i r, listed, a, w, inv, hB, hS, h => by
    simp only [planB, Bool.and_eq_true, decide_eq_true_eq] at hB
    obtain ⟨⟨⟨hin, hr⟩, hf⟩, hB'⟩ := hB
    obtain ⟨oi, v, ho, hy, h'⟩ := h
    have hr' : i ∈ Region.ready md ops listed := by simpa using hr
    exact wpHead_first ho (Region.noSelect_spec hsel) hT hin (fun c a w => hQ c a _ _ w) (fun listed' a' w' hL => seqB_ready hL.1) r.len listed a w inv (Region.free_spec ho hf) hr' hy hS
      (wpHead_plan hsel hT hQ r _ _ w (inv.set hr' hin) hB' hS h')
  | .eff i r, listed, a, w, inv, hB, _, h => by
    simp only [planB, Bool.and_eq_true, decide_eq_true_eq] at hB
    obtain ⟨⟨hin, hr⟩, hB'⟩ := hB
    have hr' : i ∈ Region.ready md ops listed := by rw [hr]; simp
    refine ⟨by rw [hr]; simp, fun j hj => ?_⟩
    rw [hr] at hj
    have hji : j = i := by simpa using hj
    subst hji
    exact ⟨hin, wpOp_mono (fun a' w' h' => ⟨h'.1, wpHead_plan hsel hT hQ r _ a' w' (inv.set hr' hin) hB' h'.1 h'.2⟩) h⟩
  | .fork i k p q, listed, a, w, inv, hB, _, h => by
    simp only [planB, Bool.and_eq_true, decide_eq_true_eq] at hB
    obtain ⟨⟨⟨⟨⟨hin, hkn⟩, hr⟩, hlen⟩, hB1⟩, hB2⟩ := hB
    have hi : i ∈ Region.ready md ops listed := by rw [hr]; simp
    have hk : k ∈ Region.ready md ops listed := by rw [hr]; simp
    refine ⟨by rw [hr]; simp, fun j hj => ?_⟩
    rw [hr] at hj
    have hj' : j = i ∨ j = k := by simpa using hj
    rcases hj' with rfl | rfl
    · exact ⟨hin, wpOp_mono (fun a' w' h' => ⟨h'.1, wpHead_plan hsel hT hQ p _ a' w' (inv.set hi hin) hB1 h'.1 h'.2⟩) h.1⟩
    · refine ⟨hkn, wpOp_mono (fun a' w' h' => ⟨h'.1, ?_⟩) h.2⟩
      have := wpHead_plan hsel hT hQ q _ a' w' (inv.set hk hkn) hB2 h'.1 h'.2
      rw [← hlen] at this
      exact this

theorem wp_region_plan {id : Nat} {a : Act} {w : World} {l : List Oper} (n : Nat) (pl : Plan) (hm : P.follows .mixedOrders = true) (hB : planGoB l.toArray n pl = true)
    (hQ : ∀ c a d v w, Q (.panic c) (Act.put a d v) w → Q (.panic c) a w)
    (h : wpPlan P l.toArray Q (fun w' => RowKit.Below w.heap.size w w') (wpList P l.toArray Q (l.drop n)) pl a w.drew) : (Code.region id l.toArray true).wp P Q a w := by
  simp only [planGoB, Bool.and_eq_true, Bool.or_eq_true, decide_eq_true_eq] at hB
  obtain ⟨⟨⟨hsel, hT⟩, hlen⟩, hord⟩ := hB
  have hT' : n = l.toArray.size ∨ (n < l.toArray.size ∧ Region.sinkB .any l.toArray n = true ∧ Region.chainB .any l.toArray n = true) := hT.imp (fun h => h) fun h => ⟨h.1.1, h.1.2, h.2⟩
  have hn : n ≤ l.toArray.size := by rcases hT' with h | h <;> omega
  have hdl : (l.drop n).length = l.toArray.size - n := by simp
  have inv0 : HeadInv .any l.toArray n (Array.replicate l.toArray.size false) :=
    ⟨by simp, fun j oj _ hl => (by rw [getD_replicate_false] at hl; cases hl), fun t _ ht => getD_in (by simpa using ht) (getD_replicate_false _ _)⟩
  have H := wpHead_plan (md := .any) hsel hT' hQ pl _ a w.drew inv0 hord (RowKit.Below.refl _ _).drew h
  refine wp_region_any hm ?_
  have := wpAny_of_wpHead (Q := Q) (g := l.toArray.size - n) (fun listed a' w' hL => by
    have := wpAny_of_seq (md := .any) (Q' := Q) (l.drop n) n listed a' w' (fun j => by simp [List.getElem?_drop]) (by rw [hdl]; exact hL.1) hL.2
    rwa [hdl] at this) _ _ _ _ H
  rw [hlen, show n + (l.toArray.size - n) = l.toArray.size by omega] at this
  exact this

theorem wpPlan_nil {T : Act → World → Prop} {a : Act} {w : World} (h : T a w) : wpPlan P ops Q S T .done a w := h
theorem wpPlan_pure {T : Act → World → Prop} {i : Nat} {dst : Option Tmp} {op : Op} {ty : TypeId} {pos : String} {aft : Array Edge} {gd : Option (Nat × Bool)} {r : Plan} {a : Act} {w : World} (ho : ops[i]? = some ⟨dst, op, ty, pos, aft, gd⟩) {v : Value}
    (hg : Region.wanted ⟨dst, op, ty, pos, aft, gd⟩ (yielded ops a.tmps) = true) (hy : ∀ w', S w' → (execOp a.eval ⟨dst, op, ty, pos, aft, gd⟩).run P w' = .ok (.value v) w')
    (h : wpPlan P ops Q S T r (a.put dst v) w) : wpPlan P ops Q S T (.pur i r) a w :=
  ⟨_, v, ho, .inl ⟨hg, hy⟩, h⟩
theorem wpPlan_skip {T : Act → World → Prop} {i : Nat} {dst : Option Tmp} {op : Op} {ty : TypeId} {pos : String} {aft : Array Edge} {gd : Option (Nat × Bool)} {r : Plan} {a : Act} {w : World} (ho : ops[i]? = some ⟨dst, op, ty, pos, aft, gd⟩)
    (hg : Region.wanted ⟨dst, op, ty, pos, aft, gd⟩ (yielded ops a.tmps) = false) (h : wpPlan P ops Q S T r (a.put dst undef) w) : wpPlan P ops Q S T (.pur i r) a w :=
  ⟨_, undef, ho, .inr ⟨hg, rfl⟩, h⟩
theorem wpPlan_eff {T : Act → World → Prop} {i : Nat} {dst : Option Tmp} {op : Op} {ty : TypeId} {pos : String} {aft : Array Edge} {gd : Option (Nat × Bool)} {r : Plan} {a : Act} {w : World} (ho : ops[i]? = some ⟨dst, op, ty, pos, aft, gd⟩)
    (h : ∀ K : Act → World → Prop, Shut (∀ a w, S w → (S w → wpPlan P ops Q S T r a w) → K a w) → if Region.wanted ⟨dst, op, ty, pos, aft, gd⟩ (yielded ops a.tmps) = true then Oper.wp P ⟨dst, op, ty, pos, aft, gd⟩ a w K Q else K (a.put dst undef) w) :
    wpPlan P ops Q S T (.eff i r) a w := by
  have h' := h (fun a' w' => S w' ∧ wpPlan P ops Q S T r a' w') (fun a w hS hW => ⟨hS, hW hS⟩)
  show wpOp P ops Q i _ a w
  unfold wpOp
  simp only [ho]
  split
  · rename_i hw; rw [if_pos hw] at h'; exact .inl h'
  · rename_i hw; rw [if_neg hw] at h'; exact h'
theorem wpPlan_fork {T : Act → World → Prop} {i j : Nat} {p q : Plan} {a : Act} {w : World} (h1 : wpPlan P ops Q S T (.eff i p) a w) (h2 : wpPlan P ops Q S T (.eff j q) a w) : wpPlan P ops Q S T (.fork i j p q) a w := ⟨h1, h2⟩
end
end Go.Proofs.Ytnefnnhnjmmebaa
