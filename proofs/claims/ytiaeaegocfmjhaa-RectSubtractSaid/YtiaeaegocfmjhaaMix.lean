/-
  A region that draws its order and makes variables beside calls: the calls in their order, the new blocks wherever they were made. Plain theorems on the model, no program.
-/
import Derived.Test.YtiaeaegocfmjhaaGo
import Derived.Test.YtiaeaegocfmjhaaBase
namespace Go.Proofs.Ytiaeaegocfmjhaa
open Go.RowKit

section
variable {P : Program} {ops : Array Oper} {Q : Exit → Act → World → Prop} {md : Region.Mode}

/-- A pointer to a block's head. -/
def ptrTo (b : Nat) : Value := .pointer (some ⟨b, 0, none⟩)
def dstOf (ops : Array Oper) (j : Nat) : Option Tmp := (ops[j]?).bind (·.dst)
/-- The temporaries of these allocations hold these blocks. -/
def putAll (ops : Array Oper) (β : Nat → Nat) (a : Act) (js : List Nat) : Act := js.foldl (fun a j => a.put (dstOf ops j) (ptrTo (β j))) a

/-- Operation j makes a variable of type (t j) with the cells (z j). -/
def AllocAt (P : Program) (ops : Array Oper) (t : Nat → TypeId) (z : Nat → Array Value) (j : Nat) : Prop :=
  ∃ o, ops[j]? = some o ∧ o.guard = none ∧ ∀ (a : Act) (w : World), (execOp a.eval o).run P w = .ok (.value (ptrTo w.heap.size)) (w.alloc (.cells (z j) (t j)))

/-- The calls in their order, each in whatever world the allocations may have left; behind them the allocations' blocks, wherever they were made. -/
def wpMix (P : Program) (ops : Array Oper) (Q : Exit → Act → World → Prop) (t : Nat → TypeId) (z : Nat → Array Value) (allocs : List Nat) (w0 : World) (T : Act → World → Prop) : List Nat → Act → World → Prop
  | [], a, w => ∀ (β : Nat → Nat) (w' : World), Below w.heap.size w w' → (∀ j ∈ allocs, Bk w' (β j) (t j) (z j) ∧ w0.heap.size ≤ β j) → (∀ j ∈ allocs, ∀ k ∈ allocs, j ≠ k → β j ≠ β k) → T (putAll ops β a allocs) w'
  | i :: r, a, w => ∀ w', Below w.heap.size w w' → wpOp P ops Q i (fun a' w'' => Below w'.heap.size w' w'' ∧ wpMix P ops Q t z allocs w0 T r a' w'') a w'

/-- Every order that the region lets is an interleaving of the calls with the allocations. -/
def mixB (md : Region.Mode) (ops : Array Oper) (n : Nat) : Nat → List Nat → List Nat → Array Bool → Bool
  | 0, calls, allocs, listed => calls.isEmpty && allocs.isEmpty && Region.seqB md ops (ops.size - n) n listed
  | f + 1, calls, allocs, listed => !(Region.ready md ops listed).isEmpty && (Region.ready md ops listed).all fun i => decide (i < n) &&
      ((decide (calls.head? = some i) && mixB md ops n f calls.tail allocs (listed.setIfInBounds i true)) || (allocs.contains i && mixB md ops n f calls (allocs.erase i) (listed.setIfInBounds i true)))

/-- The allocations' temporaries are their own. -/
def ownDst (ops : Array Oper) (calls allocs : List Nat) : Bool :=
  allocs.all (fun j => (dstOf ops j).isSome && calls.all (fun i => match ops[i]?, dstOf ops j with
    | some oi, some d => !(oi.looksAt ops).contains d && oi.dst != some d
    | _, _ => false) && allocs.all (fun k => j == k || dstOf ops j != dstOf ops k))

theorem wpOp_under {i : Nat} {oi : Oper} (hi : ops[i]? = some oi) (hsel : ∀ cs b, oi.op ≠ .select cs b) {d : Option Tmp} {u : Value} (hd : ∀ t, d = some t → t ∉ oi.looksAt ops) (hd2 : ∀ t, d = some t → oi.dst ≠ some t)
    (hQ : ∀ c a w, Q (.panic c) a w → Q (.panic c) (Act.put a d u) w) {K : Act → World → Prop} {a : Act} {w : World} (h : wpOp P ops Q i K a w) :
    wpOp P ops Q i (fun a' w' => ∃ a'', a' = a''.put d u ∧ K a'' w') (a.put d u) w := by
  unfold wpOp at *
  simp only [hi] at *
  rw [wanted_put oi a d u hd]
  split
  · rename_i hw
    simp only [hw, if_true] at h
    rcases h with h | ⟨hasks, hlets⟩
    · refine .inl ?_
      unfold Oper.wp at *
      rw [execOp_put oi hsel a d u hd]
      generalize (execOp a.eval oi).run P w = r at *
      cases r with
      | ok n w' =>
        cases n <;> simp only [Oper.upon] at h ⊢
        case value v => exact ⟨_, Act.put_comm a u v hd2, h⟩
        case skip => exact ⟨_, Act.put_comm a u undef hd2, h⟩
        case defer d' =>
          refine ⟨_, ?_, h⟩
          rw [Act.put_defers a d u d']
          exact Act.put_comm _ u undef hd2
        case enter f args =>
          refine Calls.mono h fun e w'' he => ?_
          cases e with
          | returned v => exact ⟨_, Act.put_comm a u v hd2, he⟩
          | panicked c => exact hQ _ _ _ he
          | outgrown => exact he
        case row row args => exact Rows.mono h fun v w'' he => ⟨_, Act.put_comm a u v hd2, he⟩
      | halt x w' =>
        cases x <;> simp only [Oper.upon] at h ⊢
        case panic v => exact hQ _ _ _ h
    · exact .inr ⟨by unfold Oper.asks at *; rw [execOp_put oi hsel a d u hd]; exact hasks, hlets⟩
  · rename_i hw
    simp only [hw] at h
    exact ⟨_, Act.put_comm a u undef hd2, h⟩

/-- The same under the allocations' temporaries. -/
theorem wpOp_underAll {i : Nat} {oi : Oper} (hi : ops[i]? = some oi) (hsel : ∀ cs b, oi.op ≠ .select cs b) (β : Nat → Nat)
    (hQ : ∀ c a d u w, Q (.panic c) a w → Q (.panic c) (Act.put a d u) w) :
    ∀ (js : List Nat) (_ : ∀ j ∈ js, ∀ t, dstOf ops j = some t → t ∉ oi.looksAt ops ∧ oi.dst ≠ some t) (K : Act → World → Prop) (a : Act) (w : World), wpOp P ops Q i K a w →
      wpOp P ops Q i (fun a' w' => ∃ a'', a' = putAll ops β a'' js ∧ K a'' w') (putAll ops β a js) w
  | [], _, K, a, w, h => wpOp_mono (fun a' w' hk => ⟨a', rfl, hk⟩) h
  | j :: js, hj, K, a, w, h => by
    have h1 := wpOp_under (d := dstOf ops j) (u := ptrTo (β j)) hi hsel (fun t ht => (hj j List.mem_cons_self t ht).1) (fun t ht => (hj j List.mem_cons_self t ht).2) (fun c a w => hQ c a _ _ w) h
    have h2 := wpOp_underAll hi hsel β hQ js (fun k hk => hj k (List.mem_cons_of_mem _ hk)) _ _ w h1
    refine wpOp_mono (fun a' w' hk => ?_) h2
    obtain ⟨a1, rfl, a2, rfl, hk⟩ := hk
    exact ⟨a2, rfl, hk⟩

theorem putAll_congr (ops : Array Oper) {β β' : Nat → Nat} : ∀ (js : List Nat) (a : Act), (∀ j ∈ js, β j = β' j) → putAll ops β a js = putAll ops β' a js
  | [], _, _ => rfl
  | j :: js, a, h => by
    show putAll ops β (a.put _ _) js = putAll ops β' (a.put _ _) js
    rw [h j List.mem_cons_self]
    exact putAll_congr ops js _ (fun k hk => h k (List.mem_cons_of_mem _ hk))

theorem putAll_snoc (ops : Array Oper) (β : Nat → Nat) (a : Act) (js : List Nat) (j : Nat) : putAll ops β a (js ++ [j]) = (putAll ops β a js).put (dstOf ops j) (ptrTo (β j)) := by
  unfold putAll; rw [List.foldl_append]; rfl

variable {t : Nat → TypeId} {z : Nat → Array Value} {w0 : World}

theorem wpHead_mix {n : Nat} {T : Act → World → Prop} (allocs : List Nat) (hsel : Region.noSelect ops = true) (hal : ∀ j ∈ allocs, AllocAt P ops t z j) (hnd : allocs.Nodup)
    (hQ : ∀ c a d u w, Q (.panic c) a w → Q (.panic c) (Act.put a d u) w)
    (hdd : ∀ j ∈ allocs, ∀ k ∈ allocs, j ≠ k → ∀ d, dstOf ops j = some d → dstOf ops k ≠ some d) :
    ∀ (f : Nat) (calls rem done : List Nat) (β : Nat → Nat) (listed : Array Bool) (a : Act) (wp w : World), (∀ i ∈ calls, ∀ oi, ops[i]? = some oi → ∀ j ∈ allocs, ∀ d, dstOf ops j = some d → d ∉ oi.looksAt ops ∧ oi.dst ≠ some d) →
      (done ++ rem).Perm allocs → mixB md ops n f calls rem listed = true → Below w0.heap.size w0 w → Below wp.heap.size wp w →
      (∀ j ∈ done, Bk w (β j) (t j) (z j) ∧ w0.heap.size ≤ β j) → (∀ j ∈ done, ∀ k ∈ done, j ≠ k → β j ≠ β k) → wpMix P ops Q t z allocs w0 T calls a wp →
      wpHead P md ops Q (fun w' => Below w0.heap.size w0 w') n (fun listed' a' w' => Region.seqB md ops (ops.size - n) n listed' = true ∧ T a' w') f listed (putAll ops β a done) w := by
  intro f
  induction f with
  | zero =>
    intro calls rem done β listed a wp w _ hp hB h0 hw hb hne h
    simp only [mixB, Bool.and_eq_true, List.isEmpty_iff] at hB
    obtain ⟨⟨rfl, rfl⟩, hs⟩ := hB
    rw [List.append_nil] at hp
    refine ⟨hs, ?_⟩
    have e : putAll ops β a done = putAll ops β a allocs := hp.foldl_eq' (fun x hx y hy z => by
      by_cases hxy : x = y
      · rw [hxy]
      · exact Act.put_comm z _ _ (hdd x (hp.mem_iff.1 hx) y (hp.mem_iff.1 hy) hxy)) a
    rw [e]
    exact h β w hw (fun j hj => hb j (hp.mem_iff.2 hj)) (fun j hj k hk => hne j (hp.mem_iff.2 hj) k (hp.mem_iff.2 hk))
  | succ f ih =>
    intro calls rem done β listed a wp w hap hp hB h0 hw hb hne h
    simp only [mixB, Bool.and_eq_true, List.all_eq_true, Bool.not_eq_true', Bool.or_eq_true, decide_eq_true_eq] at hB
    refine ⟨fun hr => by rw [hr] at hB; simp at hB, fun i hi => ⟨(hB.2 i hi).1, ?_⟩⟩
    rcases (hB.2 i hi).2 with ⟨hc, hB'⟩ | ⟨hc, hB'⟩
    · cases calls with
      | nil => simp at hc
      | cons c r =>
        have hci : c = i := by simpa using hc
        subst hci
        obtain ⟨_, oc, hoc, _⟩ := mem_ready.1 hi
        have h1 := h w hw
        have h2 := wpOp_underAll hoc (fun cs b => Region.noSelect_spec hsel c oc cs b hoc) β hQ done (fun j hj d hd => hap c List.mem_cons_self oc hoc j (hp.mem_iff.1 (List.mem_append_left _ hj)) d hd) _ _ w h1
        refine wpOp_mono (fun a' w' hk => ?_) h2
        obtain ⟨a1, rfl, hbw, hm⟩ := hk
        refine ⟨bstep hbw h0, ih r rem done β _ a1 w' w' (fun i hi => hap i (List.mem_cons_of_mem _ hi)) hp hB' (bstep hbw h0) (Below.refl _ _) (fun j hj => ⟨(hb j hj).1.below hbw, (hb j hj).2⟩) hne hm⟩
    · have hmem : i ∈ rem := by simpa using hc
      have hia : i ∈ allocs := hp.mem_iff.1 (List.mem_append_right _ hmem)
      obtain ⟨o, ho, hg, hrun⟩ := hal i hia
      have hnd' : (done ++ rem).Nodup := hp.nodup_iff.2 hnd
      have hnot : i ∉ done := fun hd => (List.nodup_append.1 hnd').2.2 i hd i hmem rfl
      unfold wpOp
      simp only [ho, Region.wanted, hg, if_true]
      refine .inl ?_
      unfold Oper.wp
      rw [hrun]
      simp only [Oper.upon]
      have hS : Below w0.heap.size w0 (w.alloc (.cells (z i) (t i))) := balloc h0 _
      refine ⟨hS, ?_⟩
      have hdst : o.dst = dstOf ops i := by unfold dstOf; rw [ho]; rfl
      let β' : Nat → Nat := fun j => if j = i then w.heap.size else β j
      have e1 : (putAll ops β a done).put o.dst (ptrTo w.heap.size) = putAll ops β' a (done ++ [i]) := by
        rw [putAll_snoc, hdst, putAll_congr ops (β := β') (β' := β) done a (fun j hj => if_neg (fun (e : j = i) => hnot (e ▸ hj)))]
        show _ = (putAll ops β a done).put _ (ptrTo (if i = i then w.heap.size else β i))
        rw [if_pos rfl]
      rw [e1]
      refine ih calls (rem.erase i) (done ++ [i]) β' _ a wp _ hap ?_ hB' hS ?_ ?_ ?_ h
      · refine List.Perm.trans ?_ hp
        rw [List.append_assoc]
        exact List.Perm.append_left _ (List.perm_cons_erase hmem).symm
      · exact hw.alloc hw.size _
      · intro j hj
        rcases List.mem_append.1 hj with hj | hj
        · have hji : j ≠ i := fun e => hnot (e ▸ hj)
          show Bk _ (if j = i then w.heap.size else β j) _ _ ∧ _ ≤ (if j = i then w.heap.size else β j)
          rw [if_neg hji]
          exact ⟨(hb j hj).1.alloc _, (hb j hj).2⟩
        · have hji : j = i := by simpa using hj
          subst hji
          show Bk _ (if j = j then w.heap.size else β j) _ _ ∧ _ ≤ (if j = j then w.heap.size else β j)
          rw [if_pos rfl]
          exact ⟨Bk.new _ _ _ rfl, h0.size⟩
      · intro j hj k hk hjk
        show (if j = i then w.heap.size else β j) ≠ (if k = i then w.heap.size else β k)
        have key : ∀ x, x ∈ done ++ [i] → x ≠ i → x ∈ done ∧ β x < w.heap.size := fun x hx hxi => by
          rcases List.mem_append.1 hx with hx | hx
          · exact ⟨hx, (hb x hx).1.lt⟩
          · exact absurd (by simpa using hx) hxi
        by_cases h1 : j = i
        · rw [if_pos h1]
          have h2 : k ≠ i := fun e => hjk (h1.trans e.symm)
          rw [if_neg h2]
          have := (key k hk h2).2
          omega
        · rw [if_neg h1]
          by_cases h2 : k = i
          · rw [if_pos h2]
            have := (key j hj h1).2
            omega
          · rw [if_neg h2]
            exact hne j (key j hj h1).1 k (key k hk h2).1 hjk

def mixOrdB (md : Region.Mode) (ops : Array Oper) (n : Nat) (calls allocs : List Nat) : List Nat → Array Bool → Bool
  | [], listed => mixB md ops n (calls.length + allocs.length) calls allocs listed
  | i :: r, listed => decide (i < n) && (Region.ready md ops listed).contains i && Region.free md ops listed i && mixOrdB md ops n calls allocs r (listed.setIfInBounds i true)

def mixGoB (ops : Array Oper) (n : Nat) (ord calls allocs : List Nat) : Bool :=
  Region.noSelect ops && (decide (n = ops.size) || (decide (n < ops.size) && Region.sinkB .any ops n && Region.chainB .any ops n)) && decide (ord.length + (calls.length + allocs.length) = n) &&
    mixOrdB .any ops n calls allocs ord (Array.replicate ops.size false) && ownDst ops calls allocs && decide (allocs.Nodup)

theorem wpHead_pures {S : World → Prop} {n : Nat} {L : Array Bool → Act → World → Prop} {M : Act → World → Prop} (calls allocs : List Nat) (hsel : Region.noSelect ops = true)
    (hT : n = ops.size ∨ (n < ops.size ∧ Region.sinkB md ops n = true ∧ Region.chainB md ops n = true)) (hdone : ∀ listed a w, L listed a w → ∀ j ∈ Region.ready md ops listed, n ≤ j)
    (hQ : ∀ c a d v w, Q (.panic c) (Act.put a d v) w → Q (.panic c) a w)
    (hM : ∀ (listed : Array Bool) (a : Act) (w : World), mixB md ops n (calls.length + allocs.length) calls allocs listed = true → S w → M a w → wpHead P md ops Q S n L (calls.length + allocs.length) listed a w) :
    ∀ (ord : List Nat) (listed : Array Bool) (a : Act) (w : World), HeadInv md ops n listed → mixOrdB md ops n calls allocs ord listed = true → S w → wpGo P ops Q S M (ord.map fun i => (i, true)) a w →
      wpHead P md ops Q S n L (ord.length + (calls.length + allocs.length)) listed a w
  | [], listed, a, w, _, hB, hS, h => by
    rw [List.length_nil, Nat.zero_add]
    exact hM listed a w (by simpa [mixOrdB] using hB) hS h
  | i :: r, listed, a, w, inv, hB, hS, h => by
    simp only [mixOrdB, Bool.and_eq_true, decide_eq_true_eq] at hB
    obtain ⟨⟨⟨hin, hr⟩, hf⟩, hB'⟩ := hB
    obtain ⟨oi, v, ho, hy, h'⟩ := h
    have hr' : i ∈ Region.ready md ops listed := by simpa using hr
    rw [show (i :: r).length + (calls.length + allocs.length) = (r.length + (calls.length + allocs.length)) + 1 by simp; omega]
    exact wpHead_first ho (Region.noSelect_spec hsel) hT hin (fun c a w => hQ c a _ _ w) hdone _ listed a w inv (Region.free_spec ho hf) hr' hy hS
      (wpHead_pures calls allocs hsel hT hdone hQ hM r _ _ w (inv.set hr' hin) hB' hS h')

/-- **A region that draws its order and makes variables beside calls**: the pure operations first; then the calls in their order, each in whatever world; the new variables' blocks wherever they are. -/
theorem wp_region_mix {id : Nat} {a : Act} {w : World} {l : List Oper} (n : Nat) (ord calls allocs : List Nat) (t : Nat → TypeId) (z : Nat → Array Value) (hm : P.follows .mixedOrders = true) (hB : mixGoB l.toArray n ord calls allocs = true)
    (hQ : ∀ c a d v w, Q (.panic c) (Act.put a d v) w → Q (.panic c) a w) (hQ' : ∀ c a d u w, Q (.panic c) a w → Q (.panic c) (Act.put a d u) w) (hal : ∀ j ∈ allocs, AllocAt P l.toArray t z j)
    (h : wpGo P l.toArray Q (fun w' => Below w.heap.size w w') (wpMix P l.toArray Q t z allocs w (wpList P l.toArray Q (l.drop n)) calls) (ord.map fun i => (i, true)) a w.drew) : (Code.region id l.toArray true).wp P Q a w := by
  simp only [mixGoB, Bool.and_eq_true, Bool.or_eq_true, decide_eq_true_eq] at hB
  obtain ⟨⟨⟨⟨⟨hsel, hT⟩, hlen⟩, hord⟩, hown⟩, hnd⟩ := hB
  have hT' : n = l.toArray.size ∨ (n < l.toArray.size ∧ Region.sinkB .any l.toArray n = true ∧ Region.chainB .any l.toArray n = true) := hT.imp (fun h => h) fun h => ⟨h.1.1, h.1.2, h.2⟩
  have hn : n ≤ l.toArray.size := by rcases hT' with h | h <;> omega
  have hdl : (l.drop n).length = l.toArray.size - n := by simp
  have inv0 : HeadInv .any l.toArray n (Array.replicate l.toArray.size false) :=
    ⟨by simp, fun j oj _ hl => (by rw [getD_replicate_false] at hl; cases hl), fun t _ ht => getD_in (by simpa using ht) (getD_replicate_false _ _)⟩
  have hO : ∀ j ∈ allocs, (∃ d, dstOf l.toArray j = some d) ∧ (∀ i ∈ calls, ∀ oi, l.toArray[i]? = some oi → ∀ d, dstOf l.toArray j = some d → d ∉ oi.looksAt l.toArray ∧ oi.dst ≠ some d) ∧ (∀ k ∈ allocs, j ≠ k → dstOf l.toArray j ≠ dstOf l.toArray k) := by
    intro j hj
    unfold ownDst at hown
    rw [List.all_eq_true] at hown
    have h1 := hown j hj
    simp only [Bool.and_eq_true, List.all_eq_true] at h1
    refine ⟨Option.isSome_iff_exists.1 h1.1.1, fun i hi oi hoi d hd => ?_, fun k hk hjk => ?_⟩
    · have h2 := h1.1.2 i hi
      rw [hoi, hd] at h2
      simp at h2
      exact h2
    · have h2 := h1.2 k hk
      simp at h2
      exact h2.resolve_left hjk
  have H := wpHead_pures (md := .any) (S := fun w' => Below w.heap.size w w') (L := fun listed' a' w' => Region.seqB .any l.toArray (l.toArray.size - n) n listed' = true ∧ wpList P l.toArray Q (l.drop n) a' w')
    calls allocs hsel hT' (fun listed' a' w' hL => seqB_ready hL.1) hQ (fun listed a' w' hmx hS hM => by
      have := wpHead_mix (md := .any) (n := n) (T := wpList P l.toArray Q (l.drop n)) (w0 := w) allocs hsel hal hnd hQ' (fun j hj k hk hjk d hd hkd => (hO j hj).2.2 k hk hjk (hd.trans hkd.symm)) (calls.length + allocs.length) calls allocs [] (fun _ => 0) listed a' w' w'
        (fun i hi oi hoi j hj d hd => (hO j hj).2.1 i hi oi hoi d hd) (List.Perm.refl _) hmx hS (Below.refl _ _) (fun j hj => by cases hj) (fun j hj => by cases hj) hM
      exact this) ord _ a w.drew inv0 hord (Below.refl _ _).drew h
  refine wp_region_any hm ?_
  have := wpAny_of_wpHead (Q := Q) (g := l.toArray.size - n) (fun listed a' w' hL => by
    have := wpAny_of_seq (md := .any) (Q' := Q) (l.drop n) n listed a' w' (fun j => by simp [List.getElem?_drop]) (by rw [hdl]; exact hL.1) hL.2
    rwa [hdl] at this) _ _ _ _ H
  rw [hlen, show n + (l.toArray.size - n) = l.toArray.size by omega] at this
  exact this

/-- One call of the mix. -/
theorem wpMix_call {w : World} {T : Act → World → Prop} {allocs : List Nat} {i : Nat} {dst : Option Tmp} {op : Op} {ty : TypeId} {pos : String} {aft : Array Edge} {r : List Nat} {a : Act} (ho : ops[i]? = some ⟨dst, op, ty, pos, aft, none⟩)
    (h : ∀ w', Below w.heap.size w w' → ∀ K : Act → World → Prop, Shut (∀ a w'', Below w'.heap.size w' w'' → (Below w'.heap.size w' w'' → wpMix P ops Q t z allocs w0 T r a w'') → K a w'') → Oper.wp P ⟨dst, op, ty, pos, aft, none⟩ a w' K Q) :
    wpMix P ops Q t z allocs w0 T (i :: r) a w := by
  intro w' hw'
  have h' := h w' hw' (fun a' w'' => Below w'.heap.size w' w'' ∧ wpMix P ops Q t z allocs w0 T r a' w'') (fun a w hS hW => ⟨hS, hW hS⟩)
  show wpOp P ops Q i _ a w'
  unfold wpOp
  simp only [ho, Region.wanted, if_true]
  exact .inl h'
theorem wpMix_end {w : World} {T : Act → World → Prop} {allocs : List Nat} {a : Act}
    (h : ∀ (β : Nat → Nat) (w' : World), Below w.heap.size w w' → (∀ j ∈ allocs, Bk w' (β j) (t j) (z j) ∧ w0.heap.size ≤ β j) → (∀ j ∈ allocs, ∀ k ∈ allocs, j ≠ k → β j ≠ β k) → T (putAll ops β a allocs) w') : wpMix P ops Q t z allocs w0 T [] a w := h
end
end Go.Proofs.Ytiaeaegocfmjhaa
