/-
  A region that draws its order, makes variables beside calls and stores into them while other operations are open: pure operations first, then calls and new variables, then a chain of effects. Plain theorems on the model, no program.
-/
import Derived.Test.YtnefnnhnjmmebaaMix
namespace Go.Proofs.Ytnefnnhnjmmebaa
open Go.RowKit

section
variable {P : Program} {ops : Array Oper} {Q : Exit → Act → World → Prop} {md : Region.Mode} {t : Nat → TypeId} {z : Nat → Array Value} {w0 : World}

/-- Every order that the region lets is an interleaving of the calls with the allocations; the chain 'fin' behind them. -/
def mixC (md : Region.Mode) (ops : Array Oper) (n : Nat) (fin : List Nat) : Nat → List Nat → List Nat → Array Bool → Bool
  | 0, calls, allocs, listed => calls.isEmpty && allocs.isEmpty && ordB md ops n (fin.map fun i => (i, false)) listed
  | f + 1, calls, allocs, listed => !(Region.ready md ops listed).isEmpty && (Region.ready md ops listed).all fun i => decide (i < n) &&
      ((decide (calls.head? = some i) && mixC md ops n fin f calls.tail allocs (listed.setIfInBounds i true)) || (allocs.contains i && mixC md ops n fin f calls (allocs.erase i) (listed.setIfInBounds i true)))

theorem wpHead_mixC {n : Nat} {T : Act → World → Prop} (fin allocs : List Nat) (hsel : Region.noSelect ops = true) (hal : ∀ j ∈ allocs, AllocAt P ops t z j) (hnd : allocs.Nodup)
    (hT : n = ops.size ∨ (n < ops.size ∧ Region.sinkB md ops n = true ∧ Region.chainB md ops n = true))
    (hQ0 : ∀ c a d v w, Q (.panic c) (Act.put a d v) w → Q (.panic c) a w)
    (hQ : ∀ c a d u w, Q (.panic c) a w → Q (.panic c) (Act.put a d u) w)
    (hdd : ∀ j ∈ allocs, ∀ k ∈ allocs, j ≠ k → ∀ d, dstOf ops j = some d → dstOf ops k ≠ some d) :
    ∀ (f : Nat) (calls rem done : List Nat) (β : Nat → Nat) (listed : Array Bool) (a : Act) (wp w : World), (∀ i ∈ calls, ∀ oi, ops[i]? = some oi → ∀ j ∈ allocs, ∀ d, dstOf ops j = some d → d ∉ oi.looksAt ops ∧ oi.dst ≠ some d) →
      (done ++ rem).Perm allocs → HeadInv md ops n listed → mixC md ops n fin f calls rem listed = true → Below w0.heap.size w0 w → Below wp.heap.size wp w →
      (∀ j ∈ done, Bk w (β j) (t j) (z j) ∧ w0.heap.size ≤ β j) → (∀ j ∈ done, ∀ k ∈ done, j ≠ k → β j ≠ β k) → wpMix P ops Q t z allocs w0 (wpGo P ops Q (fun w' => Below w0.heap.size w0 w') T (fin.map fun i => (i, false))) calls a wp →
      wpHead P md ops Q (fun w' => Below w0.heap.size w0 w') n (fun listed' a' w' => Region.seqB md ops (ops.size - n) n listed' = true ∧ T a' w') (f + fin.length) listed (putAll ops β a done) w := by
  intro f
  induction f with
  | zero =>
    intro calls rem done β listed a wp w _ hp inv hB h0 hw hb hne h
    simp only [mixC, Bool.and_eq_true, List.isEmpty_iff] at hB
    obtain ⟨⟨rfl, rfl⟩, hs⟩ := hB
    rw [List.append_nil] at hp
    have e : putAll ops β a done = putAll ops β a allocs := hp.foldl_eq' (fun x hx y hy z => by
      by_cases hxy : x = y
      · rw [hxy]
      · exact Act.put_comm z _ _ (hdd x (hp.mem_iff.1 hx) y (hp.mem_iff.1 hy) hxy)) a
    rw [e]
    have h1 := h β w hw (fun j hj => hb j (hp.mem_iff.2 hj)) (fun j hj k hk => hne j (hp.mem_iff.2 hj) k (hp.mem_iff.2 hk))
    have h2 := wpHead_ord (md := md) hsel hT hQ0 (fin.map fun i => (i, false)) listed (putAll ops β a allocs) w inv hs h0 h1
    rw [List.length_map] at h2
    rw [Nat.zero_add]
    exact h2
  | succ f ih =>
    intro calls rem done β listed a wp w hap hp inv hB h0 hw hb hne h
    simp only [mixC, Bool.and_eq_true, List.all_eq_true, Bool.not_eq_true', Bool.or_eq_true, decide_eq_true_eq] at hB
    rw [show f + 1 + fin.length = (f + fin.length) + 1 by omega]
    refine ⟨fun hr => by rw [hr] at hB; simp at hB, fun i hi => ⟨(hB.2 i hi).1, ?_⟩⟩
    have inv' := inv.set hi (hB.2 i hi).1
    rcases (hB.2 i hi).2 with ⟨hc, hB'⟩ | ⟨hc, hB'⟩
    · cases calls with
      | nil => simp at hc
      | cons c r =>
        have hci : c = i := by simpa using hc
        subst hci
        obtain ⟨_, oc, hoc, _⟩ := mem_ready.1 hi
        have h1 := h w hw
        have h2 := wpOp_underAll hoc (fun cs b => Region.noSelect_spec hsel c oc cs b hoc) β hQ done (fun j hj d hd => hap c List.mem_cons_self oc hoc j (hp.mem_iff.1 (List.mem_append_left _ hj)) d hd) _ _ w h1
        refine wpOp_mono (fun a' w' hk => ?_) h2
        obtain ⟨a1, rfl, hbw, hm⟩ := hk
        refine ⟨bstep hbw h0, ih r rem done β _ a1 w' w' (fun i hi => hap i (List.mem_cons_of_mem _ hi)) hp inv' hB' (bstep hbw h0) (Below.refl _ _) (fun j hj => ⟨(hb j hj).1.below hbw, (hb j hj).2⟩) hne hm⟩
    · have hmem : i ∈ rem := by simpa using hc
      have hia : i ∈ allocs := hp.mem_iff.1 (List.mem_append_right _ hmem)
      obtain ⟨o, ho, hg, hrun⟩ := hal i hia
      have hnd' : (done ++ rem).Nodup := hp.nodup_iff.2 hnd
      have hnot : i ∉ done := fun hd => (List.nodup_append.1 hnd').2.2 i hd i hmem rfl
      unfold wpOp
      simp only [ho, Region.wanted, hg, if_true]
      refine .inl ?_
      unfold Oper.wp
      rw [hrun]
      simp only [Oper.upon]
      have hS : Below w0.heap.size w0 (w.alloc (.cells (z i) (t i))) := balloc h0 _
      refine ⟨hS, ?_⟩
      have hdst : o.dst = dstOf ops i := by unfold dstOf; rw [ho]; rfl
      let β' : Nat → Nat := fun j => if j = i then w.heap.size else β j
      have e1 : (putAll ops β a done).put o.dst (ptrTo w.heap.size) = putAll ops β' a (done ++ [i]) := by
        rw [putAll_snoc, hdst, putAll_congr ops (β := β') (β' := β) done a (fun j hj => if_neg (fun (e : j = i) => hnot (e ▸ hj)))]
        show _ = (putAll ops β a done).put _ (ptrTo (if i = i then w.heap.size else β i))
        rw [if_pos rfl]
      rw [e1]
      refine ih calls (rem.erase i) (done ++ [i]) β' _ a wp _ hap ?_ inv' hB' hS ?_ ?_ ?_ h
      · refine List.Perm.trans ?_ hp
        rw [List.append_assoc]
        exact List.Perm.append_left _ (List.perm_cons_erase hmem).symm
      · exact hw.alloc hw.size _
      · intro j hj
        rcases List.mem_append.1 hj with hj | hj
        · have hji : j ≠ i := fun e => hnot (e ▸ hj)
          show Bk _ (if j = i then w.heap.size else β j) _ _ ∧ _ ≤ (if j = i then w.heap.size else β j)
          rw [if_neg hji]
          exact ⟨(hb j hj).1.alloc _, (hb j hj).2⟩
        · have hji : j = i := by simpa using hj
          subst hji
          show Bk _ (if j = j then w.heap.size else β j) _ _ ∧ _ ≤ (if j = j then w.heap.size else β j)
          rw [if_pos rfl]
          exact ⟨Bk.new _ _ _ rfl, h0.size⟩
      · intro j hj k hk hjk
        show (if j = i then w.heap.size else β j) ≠ (if k = i then w.heap.size else β k)
        have key : ∀ x, x ∈ done ++ [i] → x ≠ i → x ∈ done ∧ β x < w.heap.size := fun x hx hxi => by
          rcases List.mem_append.1 hx with hx | hx
          · exact ⟨hx, (hb x hx).1.lt⟩
          · exact absurd (by simpa using hx) hxi
        by_cases h1 : j = i
        · rw [if_pos h1]
          have h2 : k ≠ i := fun e => hjk (h1.trans e.symm)
          rw [if_neg h2]
          have := (key k hk h2).2
          omega
        · rw [if_neg h1]
          by_cases h2 : k = i
          · rw [if_pos h2]
            have := (key j hj h1).2
            omega
          · rw [if_neg h2]
            exact hne j (key j hj h1).1 k (key k hk h2).1 hjk

def mixOrdC (md : Region.Mode) (ops : Array Oper) (n : Nat) (calls allocs fin : List Nat) : List Nat → Array Bool → Bool
  | [], listed => mixC md ops n fin (calls.length + allocs.length) calls allocs listed
  | i :: r, listed => decide (i < n) && (Region.ready md ops listed).contains i && Region.free md ops listed i && mixOrdC md ops n calls allocs fin r (listed.setIfInBounds i true)

def mixGoC (ops : Array Oper) (n : Nat) (ord calls allocs fin : List Nat) : Bool :=
  Region.noSelect ops && (decide (n = ops.size) || (decide (n < ops.size) && Region.sinkB .any ops n && Region.chainB .any ops n)) && decide (ord.length + (calls.length + allocs.length + fin.length) = n) &&
    mixOrdC .any ops n calls allocs fin ord (Array.replicate ops.size false) && ownDst ops calls allocs && decide (allocs.Nodup)

theorem wpHead_puresC {S : World → Prop} {n : Nat} {L : Array Bool → Act → World → Prop} {M : Act → World → Prop} (calls allocs fin : List Nat) (hsel : Region.noSelect ops = true)
    (hT : n = ops.size ∨ (n < ops.size ∧ Region.sinkB md ops n = true ∧ Region.chainB md ops n = true)) (hdone : ∀ listed a w, L listed a w → ∀ j ∈ Region.ready md ops listed, n ≤ j)
    (hQ : ∀ c a d v w, Q (.panic c) (Act.put a d v) w → Q (.panic c) a w)
    (hM : ∀ (listed : Array Bool) (a : Act) (w : World), HeadInv md ops n listed → mixC md ops n fin (calls.length + allocs.length) calls allocs listed = true → S w → M a w → wpHead P md ops Q S n L (calls.length + allocs.length + fin.length) listed a w) :
    ∀ (ord : List Nat) (listed : Array Bool) (a : Act) (w : World), HeadInv md ops n listed → mixOrdC md ops n calls allocs fin ord listed = true → S w → wpGo P ops Q S M (ord.map fun i => (i, true)) a w →
      wpHead P md ops Q S n L (ord.length + (calls.length + allocs.length + fin.length)) listed a w
  | [], listed, a, w, inv, hB, hS, h => by
    rw [List.length_nil, Nat.zero_add]
    exact hM listed a w inv (by simpa [mixOrdC] using hB) hS h
  | i :: r, listed, a, w, inv, hB, hS, h => by
    simp only [mixOrdC, Bool.and_eq_true, decide_eq_true_eq] at hB
    obtain ⟨⟨⟨hin, hr⟩, hf⟩, hB'⟩ := hB
    obtain ⟨oi, v, ho, hy, h'⟩ := h
    have hr' : i ∈ Region.ready md ops listed := by simpa using hr
    rw [show (i :: r).length + (calls.length + allocs.length + fin.length) = (r.length + (calls.length + allocs.length + fin.length)) + 1 by simp; omega]
    exact wpHead_first ho (Region.noSelect_spec hsel) hT hin (fun c a w => hQ c a _ _ w) hdone _ listed a w inv (Region.free_spec ho hf) hr' hy hS
      (wpHead_puresC calls allocs fin hsel hT hdone hQ hM r _ _ w (inv.set hr' hin) hB' hS h')

/-- **A region that draws its order, makes variables beside calls and then carries out a chain of effects**. -/
theorem wp_region_mixs {id : Nat} {a : Act} {w : World} {l : List Oper} (n : Nat) (ord calls allocs fin : List Nat) (t : Nat → TypeId) (z : Nat → Array Value) (hm : P.follows .mixedOrders = true) (hB : mixGoC l.toArray n ord calls allocs fin = true)
    (hQ : ∀ c a d v w, Q (.panic c) (Act.put a d v) w → Q (.panic c) a w) (hQ' : ∀ c a d u w, Q (.panic c) a w → Q (.panic c) (Act.put a d u) w) (hal : ∀ j ∈ allocs, AllocAt P l.toArray t z j)
    (h : wpGo P l.toArray Q (fun w' => Below w.heap.size w w') (wpMix P l.toArray Q t z allocs w (wpGo P l.toArray Q (fun w' => Below w.heap.size w w') (wpList P l.toArray Q (l.drop n)) (fin.map fun i => (i, false))) calls) (ord.map fun i => (i, true)) a w.drew) : (Code.region id l.toArray true).wp P Q a w := by
  simp only [mixGoC, Bool.and_eq_true, Bool.or_eq_true, decide_eq_true_eq] at hB
  obtain ⟨⟨⟨⟨⟨hsel, hT⟩, hlen⟩, hord⟩, hown⟩, hnd⟩ := hB
  have hT' : n = l.toArray.size ∨ (n < l.toArray.size ∧ Region.sinkB .any l.toArray n = true ∧ Region.chainB .any l.toArray n = true) := hT.imp (fun h => h) fun h => ⟨h.1.1, h.1.2, h.2⟩
  have hn : n ≤ l.toArray.size := by rcases hT' with h | h <;> omega
  have hdl : (l.drop n).length = l.toArray.size - n := by simp
  have inv0 : HeadInv .any l.toArray n (Array.replicate l.toArray.size false) :=
    ⟨by simp, fun j oj _ hl => (by rw [getD_replicate_false] at hl; cases hl), fun t _ ht => getD_in (by simpa using ht) (getD_replicate_false _ _)⟩
  have hO : ∀ j ∈ allocs, (∃ d, dstOf l.toArray j = some d) ∧ (∀ i ∈ calls, ∀ oi, l.toArray[i]? = some oi → ∀ d, dstOf l.toArray j = some d → d ∉ oi.looksAt l.toArray ∧ oi.dst ≠ some d) ∧ (∀ k ∈ allocs, j ≠ k → dstOf l.toArray j ≠ dstOf l.toArray k) := by
    intro j hj
    unfold ownDst at hown
    rw [List.all_eq_true] at hown
    have h1 := hown j hj
    simp only [Bool.and_eq_true, List.all_eq_true] at h1
    refine ⟨Option.isSome_iff_exists.1 h1.1.1, fun i hi oi hoi d hd => ?_, fun k hk hjk => ?_⟩
    · have h2 := h1.1.2 i hi
      rw [hoi, hd] at h2
      simp at h2
      exact h2
    · have h2 := h1.2 k hk
      simp at h2
      exact h2.resolve_left hjk
  have H := wpHead_puresC (md := .any) (S := fun w' => Below w.heap.size w w') (L := fun listed' a' w' => Region.seqB .any l.toArray (l.toArray.size - n) n listed' = true ∧ wpList P l.toArray Q (l.drop n) a' w')
    calls allocs fin hsel hT' (fun listed' a' w' hL => seqB_ready hL.1) hQ (fun listed a' w' inv hmx hS hM => by
      have := wpHead_mixC (md := .any) (n := n) (T := wpList P l.toArray Q (l.drop n)) (w0 := w) fin allocs hsel hal hnd hT' hQ hQ' (fun j hj k hk hjk d hd hkd => (hO j hj).2.2 k hk hjk (hd.trans hkd.symm)) (calls.length + allocs.length) calls allocs [] (fun _ => 0) listed a' w' w'
        (fun i hi oi hoi j hj d hd => (hO j hj).2.1 i hi oi hoi d hd) (List.Perm.refl _) inv hmx hS (Below.refl _ _) (fun j hj => by cases hj) (fun j hj => by cases hj) hM
      exact this) ord _ a w.drew inv0 hord (Below.refl _ _).drew h
  refine wp_region_any hm ?_
  have := wpAny_of_wpHead (Q := Q) (g := l.toArray.size - n) (fun listed a' w' hL => by
    have := wpAny_of_seq (md := .any) (Q' := Q) (l.drop n) n listed a' w' (fun j => by simp [List.getElem?_drop]) (by rw [hdl]; exact hL.1) hL.2
    rwa [hdl] at this) _ _ _ _ H
  rw [hlen, show n + (l.toArray.size - n) = l.toArray.size by omega] at this
  exact this
end
end Go.Proofs.Ytnefnnhnjmmebaa
