/-
  A queue of whole numbers: a slice that the call owns and that may begin within its row. And small plain facts for the walk of line.
-/
import Derived.Test.YtndablijjkchjaaPlB
import Derived.Test.YtndablijjkchjaaLineP
namespace Go.Proofs.Ytndablijjkchjaa
open Go.RowKit
set_option linter.unusedSimpArgs false
set_option linter.unusedVariables false

/-- The call owns the slice v, and it holds the numbers l. -/
def OwnQ (e : TypeId) (w : World) (base : Nat) (v : Value) (l : List Nat) : Prop :=
  (v = .slice none 0 0 ∧ l = []) ∨ ∃ g o cap cur, v = .slice (some ⟨g, o, none⟩) l.length cap ∧ base ≤ g ∧ Bk w g e cur ∧ l.length ≤ cap ∧ cap ≤ maxLen ∧ o + cap = cur.size ∧ ∀ (i a : Nat), l[i]? = some a → cur[o + i]? = some (.int .i64 (a : Int))

def qlen : Value → Nat
  | .slice _ n _ => n
  | _ => 0
@[simp] theorem qlen_slice (A : Option Addr) (n c : Nat) : qlen (.slice A n c) = n := rfl

section
variable {e : TypeId} {w w' : World} {base : Nat} {v : Value} {l : List Nat}
theorem OwnQ.nil (e : TypeId) (w : World) (base : Nat) : OwnQ e w base (.slice none 0 0) [] := .inl ⟨rfl, rfl⟩
theorem OwnQ.turn (h : OwnQ e w base v l) (hb : ∀ g cs, v.ownBlock = some g → Bk w g e cs → Bk w' g e cs) : OwnQ e w' base v l := by
  rcases h with h | ⟨g, o, cap, cur, rfl, h1, h2, h3⟩
  · exact .inl h
  · exact .inr ⟨g, o, cap, cur, rfl, h1, hb g cur rfl h2, h3⟩
theorem OwnQ.below (h : OwnQ e w base v l) (hb : Below w.heap.size w w') : OwnQ e w' base v l := h.turn fun _ _ _ k => k.below hb
theorem OwnQ.alloc (h : OwnQ e w base v l) (o : Obj) : OwnQ e (w.alloc o) base v l := h.turn fun _ _ _ k => k.alloc o
theorem OwnQ.drew (h : OwnQ e w base v l) : OwnQ e w.drew base v l := h.turn fun _ _ _ k => k
theorem bk_ne {g g' : Nat} {t e : TypeId} {cs cs' : Array Value} (hb : Bk w g t cs) (k : Bk w g' e cs') (hne : e ≠ t) : g' ≠ g := fun he => by
  subst he
  unfold Bk at k hb
  rw [hb] at k
  injection k with k
  injection k with _ e1
  exact hne e1.symm
theorem OwnQ.setFar (h : OwnQ e w base v l) {g : Nat} {t : TypeId} {cs : Array Value} (hb : Bk w g t cs) (hne : e ≠ t) (i : Nat) (u : Value) : OwnQ e (w.setCell ⟨g, i, none⟩ u) base v l :=
  h.turn fun _ _ _ k => k.far (p := ⟨g, i, none⟩) (bk_ne hb k hne) u
theorem OwnQ.neBk (h : OwnQ e w base v l) {g : Nat} {t : TypeId} {cs : Array Value} (hb : Bk w g t cs) (hne : e ≠ t) : some g ≠ v.ownBlock := by
  rcases h with ⟨rfl, _⟩ | ⟨g', o, cap, cur, rfl, h1, h2, h3⟩
  · simp [Value.ownBlock]
  · intro he
    have he : g = g' := by simpa [Value.ownBlock] using he
    exact bk_ne hb h2 hne he.symm
theorem OwnQ.grownL {α : Type} {enc : α → List Value} {t : TypeId} {sz base' : Nat} {u : Value} {m : List α} (h : OwnQ e w base v l) (ho : OwnL enc t sz w base' u m) (hg : w.grownBy w' v.ownBlock) (hne : e ≠ t) : OwnL enc t sz w' base' u m := by
  refine ⟨ho.1, ?_⟩
  rcases ho.2 with h2 | ⟨g, cap, cur, hv, hbg, hh, r⟩
  · exact Or.inl h2
  · exact Or.inr ⟨g, cap, cur, hv, hbg, Bk.grown (t := t) hh hg (h.neBk (t := t) hh hne), r⟩
theorem OwnQ.belowGrown (h : OwnQ e w base v l) (hg : w.grownBy w' v.ownBlock) {w0 : World} (hb : Below w0.heap.size w0 w) (hB : w0.heap.size ≤ base) : Below w0.heap.size w0 w' :=
  hb.grown hg hb.size (fun k hk => by
    rcases h with ⟨rfl, _⟩ | ⟨g', o, cap, cur, rfl, h1, _⟩
    · simp [Value.ownBlock] at hk
    · have hk : g' = k := by simpa [Value.ownBlock] using hk
      omega)
theorem OwnQ.form (h : OwnQ e w base v l) : ∃ A c, v = .slice A l.length c := by
  rcases h with ⟨rfl, rfl⟩ | ⟨g, o, cap, cur, rfl, _⟩
  · exact ⟨none, 0, rfl⟩
  · exact ⟨_, _, rfl⟩
/-- A queue that is not empty. -/
theorem OwnQ.full (h : OwnQ e w base v l) (hl : l ≠ []) : ∃ g o cap, v = .slice (some ⟨g, o, none⟩) l.length cap ∧ base ≤ g ∧ g < w.heap.size ∧ l.length ≤ cap ∧ cap ≤ maxLen ∧ (∀ (i a : Nat), l[i]? = some a → w.cell? ⟨g, o + i, none⟩ = some (.int .i64 (a : Int))) := by
  rcases h with ⟨_, h⟩ | ⟨g, o, cap, cur, rfl, h1, h2, h3, h4, h5, h6⟩
  · exact absurd h hl
  · exact ⟨g, o, cap, rfl, h1, h2.lt, h3, h4, fun i a ha => by rw [h2.rules.1]; exact h6 i a ha⟩
theorem OwnQ.pop {g o n c : Nat} {q : List Nat} {a : Nat} (h : OwnQ e w base (.slice (some ⟨g, o, none⟩) n c) (q ++ [a])) : OwnQ e w base (.slice (some ⟨g, o, none⟩) q.length c) q := by
  rcases h with ⟨_, h⟩ | ⟨g', o', cap, cur, hv, h1, h2, h3, h4, h5, h6⟩
  · simp at h
  · injection hv with e1 e2 e3
    injection e1 with e1
    injection e1 with e1 e4
    subst e1 e4 e3
    rw [List.length_append, List.length_singleton] at h3
    exact .inr ⟨g, o, c, cur, rfl, h1, h2, by omega, h4, h5, fun i b hb => h6 i b (by rw [List.getElem?_append_left (List.getElem?_eq_some_iff.1 hb).1]; exact hb)⟩
theorem OwnQ.front {g o n c : Nat} {q : List Nat} {a : Nat} (h : OwnQ e w base (.slice (some ⟨g, o, none⟩) n c) (a :: q)) : OwnQ e w base (.slice (some ⟨g, o + 1, none⟩) q.length (c - 1)) q := by
  rcases h with ⟨_, h⟩ | ⟨g', o', cap, cur, hv, h1, h2, h3, h4, h5, h6⟩
  · simp at h
  · injection hv with e1 e2 e3
    injection e1 with e1
    injection e1 with e1 e4
    subst e1 e4 e3
    rw [List.length_cons] at h3
    exact .inr ⟨g, o + 1, c - 1, cur, rfl, h1, h2, by omega, by omega, by omega, fun i b hb => by rw [show o + 1 + i = o + (i + 1) by omega]; exact h6 (i + 1) b (by simpa using hb)⟩

theorem run_append_q {P : Program} (t ty : TypeId) (hinfo : (P.info? e).map (fun i => (i.zero, i.size, i.bytes)) = some (some (.int .i64 0), 1, 8)) (ht : P.underlying t = some (.slice e))
    (hown : OwnQ e w base v l) (g p : Nat) (hb : Bk w g e #[.int .i64 (p : Int)]) (hlen : l.length ≤ 4294967296) (hbase : base ≤ w.heap.size) :
    ∃ v' w', (Builtin.append_ #[t, t] ty #[v, .slice (some ⟨g, 0, none⟩) 1 1]).run P w = .ok v' w' ∧ OwnQ e w' base v' (l ++ [p]) ∧ w.grownBy w' v.ownBlock := by
  obtain ⟨i, hi, hz, hs1, hs2⟩ := info_parts hinfo
  have hsrc : Src P i.size t (.slice (some ⟨g, 0, none⟩) 1 1) 1 [.int .i64 (p : Int)] w :=
    Src.ofSlice w ht ⟨g, 0, none⟩ 1 1 _ (by rw [hs1]; rfl) (fun j u hu => World.news_of_block (hb : w.heap[g]? = some (.cells #[.int .i64 (p : Int)] e (0, 0))) j u hu) (by intro u hu; simp at hu; subst hu; rfl)
  have grown : ∀ (old : Nat), old < l.length + 1 → ∀ (row : Option Nat),
      OwnQ e (w.drew.alloc (.cells ((l.map (fun a : Nat => Value.int .i64 (a : Int)) ++ [Value.int .i64 (p : Int)]).toArray ++ Builtin.zeroCells (Value.int .i64 0).cells (grownCap w (l.length + 1) old e - (l.length + 1))) e)) base
        (.slice (some ⟨w.heap.size, 0, none⟩) (l.length + 1) (grownCap w (l.length + 1) old e)) (l ++ [p]) ∧
      w.grownBy (w.drew.alloc (.cells ((l.map (fun a : Nat => Value.int .i64 (a : Int)) ++ [Value.int .i64 (p : Int)]).toArray ++ Builtin.zeroCells (Value.int .i64 0).cells (grownCap w (l.length + 1) old e - (l.length + 1))) e)) row := by
    intro old ho row
    have hge := grownCap_ge w (l.length + 1) old e
    have hcm : grownCap w (l.length + 1) old e ≤ maxLen := grownCap_le_maxLen w (l.length + 1) old e (by unfold maxLen; omega)
    refine ⟨.inr ⟨w.heap.size, 0, _, _, by rw [List.length_append]; rfl, hbase, heap_alloc_new w.drew _, by rw [List.length_append]; exact hge, hcm, ?_, ?_⟩, ⟨rfl, rfl, rfl, by simp, fun k hk _ => Below.heap_alloc w.drew _ k hk⟩⟩
    · simp only [Array.size_append, List.size_toArray, size_zeroCells, List.length_append, List.length_map, List.length_singleton]
      rw [show (Value.int .i64 0).cells.size = 1 from rfl]
      omega
    · intro i a ha
      have hlt := (List.getElem?_eq_some_iff.1 ha).1
      rw [List.length_append, List.length_singleton] at hlt
      rw [Nat.zero_add, Array.getElem?_append_left (by simp; omega), List.getElem?_toArray, show l.map (fun a : Nat => Value.int .i64 (a : Int)) ++ [Value.int .i64 (p : Int)] = (l ++ [p]).map (fun a : Nat => Value.int .i64 (a : Int)) by simp, List.getElem?_map, ha]
      rfl
  rcases hown with ⟨rfl, rfl⟩ | ⟨g', o, cap, cur, rfl, h1, h2, h3, h4, h5, h6⟩
  · have hr := run_append_grow_src (P := P) w t t ty e i _ ht hi hz none 0 0 [] (run_firstCells_none _ _ _ _ _) _ 1 _ hsrc (by omega) (by omega) (growslice_fits (by omega) (by rw [hs2]; omega))
    have hgr := grown 0 (by simp) (Value.ownBlock (.slice none 0 0))
    simp only [List.length_nil, Nat.zero_add, List.nil_append, List.map_nil] at hgr hr ⊢
    exact ⟨_, _, hr, hgr.1, hgr.2⟩
  · by_cases hroom : l.length + 1 ≤ cap
    · have hr := run_append_room_src (P := P) w t t ty e i ht hi g' o l.length cap _ 1 _ hsrc hroom
        (fun j hj => by
          have hj : j = 0 := by simpa using hj
          subst hj
          rw [h2.rules.1, hs1, Array.getElem?_eq_getElem (by omega)]; rfl)
        (fun j hj => h2.rules.2.1 _)
      rw [hs1, Nat.mul_one] at hr
      refine ⟨_, _, hr, .inr ⟨g', o, cap, _, by rw [List.length_append]; rfl, h1, Bk.set h2 _ _, by rw [List.length_append]; exact hroom, h4, by rw [Array.size_setIfInBounds]; exact h5, fun j a ha => ?_⟩, ⟨rfl, rfl, rfl, by simp [World.setCells, World.setCell], fun k _ hk => Below.heap_setCell _ _ _ _ (fun e => hk (by simp [Value.ownBlock]; exact e))⟩⟩
      rw [Array.getElem?_setIfInBounds]
      by_cases hj : j < l.length
      · rw [if_neg (by omega)]
        rw [List.getElem?_append_left hj] at ha
        exact h6 j a ha
      · have hjl : j = l.length := by
          have := (List.getElem?_eq_some_iff.1 ha).1
          rw [List.length_append, List.length_singleton] at this
          omega
        subst hjl
        rw [List.getElem?_append_right (Nat.le_refl _), Nat.sub_self] at ha
        have ha : p = a := by simpa using ha
        subst ha
        rw [if_pos rfl, if_pos (by omega)]
    · have holds : ∀ j u, (l.map (fun a : Nat => Value.int .i64 (a : Int)))[j]? = some u → w.drew.cell? ((⟨g', o, none⟩ : Addr).add j) = some u := fun j u hu => by
        rw [List.getElem?_map] at hu
        cases hl : l[j]? with
        | none => rw [hl] at hu; cases hu
        | some a =>
          rw [hl] at hu
          have hu : Value.int .i64 (a : Int) = u := by simpa using hu
          rw [← hu, show (⟨g', o, none⟩ : Addr).add j = ⟨g', o + j, none⟩ by unfold Addr.add; split <;> simp_all, (Bk.drew h2).rules.1]
          exact h6 j a hl
      have hr := run_append_grow_src (P := P) w t t ty e i _ ht hi hz (some ⟨g', o, none⟩) l.length cap (l.map (fun a : Nat => Value.int .i64 (a : Int))) (run_firstCells_some _ _ _ _ _ _ _ (by rw [List.length_map, hs1, Nat.mul_one]) holds) _ 1 _ hsrc (by omega) (by omega) (growslice_fits (by omega) (by rw [hs2]; omega))
      have hgr := grown cap (by omega) (Value.ownBlock (.slice (some ⟨g', o, none⟩) l.length cap))
      exact ⟨_, _, hr, hgr.1, hgr.2⟩
theorem wpList_append_q {P : Program} {ops : Array Oper} {rest : List Oper} {o : Oper} {a : Act} {Q : Exit → Act → World → Prop} (t : TypeId) (hinfo : (P.info? e).map (fun i => (i.zero, i.size, i.bytes)) = some (some (.int .i64 0), 1, 8)) (ht : P.underlying t = some (.slice e))
    (hgd : o.guard = none) (s x : Operand) (ho : o.op = .call { callee := .builtin .append, args := #[s, x], argTypes := #[t, t] })
    (v : Value) (l : List Nat) (hs : a.eval s = v) (hown : OwnQ e w base v l) (g p : Nat) (hx : a.eval x = .slice (some ⟨g, 0, none⟩) 1 1) (hb : Bk w g e #[.int .i64 (p : Int)])
    (hlen : l.length ≤ 4294967296) (hbase : base ≤ w.heap.size)
    (h : ∀ v' w', OwnQ e w' base v' (l ++ [p]) → w.grownBy w' v.ownBlock → wpList P ops Q rest (a.put o.dst v') w') : wpList P ops Q (o :: rest) a w := by
  refine wpList_plain hgd fun K hK => ?_
  obtain ⟨v', w', hrun, h2, h3⟩ := run_append_q (P := P) t o.type hinfo ht hown g p hb hlen hbase
  unfold Oper.wp execOp
  simp only [ho, resolve, invoke, builtin, Sem.run_bind, Sem.run_pure, Result.andThen_ok, List.map_toArray, List.map_cons, List.map_nil, hs, hx, hrun]
  exact hK _ _ (h v' w' h2 h3)
end

theorem inc_len {k : Nat → Int} {n : Nat} : ∀ (q : List Nat) (lo : Nat), lo ≤ n → q.Pairwise (fun a b => a < b ∧ k b < k a) → (∀ a ∈ q, lo ≤ a ∧ a < n) → q.length + lo ≤ n
  | [], lo, h, _, _ => by simpa using h
  | a :: q, lo, h, hp, hq => by
    have h1 := List.pairwise_cons.1 hp
    have h2 := hq a (by simp)
    have := inc_len q (a + 1) h2.2 h1.2 (fun b hb => ⟨(h1.1 b hb).1, (hq b (List.mem_cons_of_mem _ hb)).2⟩)
    rw [List.length_cons]; omega
theorem QP.len {k : Nat → Int} {lo next : Nat} {q : List Nat} (h : QP k lo next q) : q.length ≤ next := by
  have := inc_len q 0 (Nat.zero_le _) h.inc (fun a ha => ⟨Nat.zero_le _, h.lt a ha⟩); omega
theorem QG.len {k : Nat → Int} {lo next : Nat} {q : List Nat} (h : QG k lo next q) : q.length ≤ next := by
  have := inc_len q 0 (Nat.zero_le _) h.inc (fun a ha => ⟨Nat.zero_le _, h.lt a ha⟩); omega
theorem fill_set {α : Type} (T R : List α) {k : Nat} (h : k < T.length) (hr : R.length = T.length) : (T.take k ++ R.drop k).set k T[k] = T.take (k + 1) ++ R.drop (k + 1) := by
  have hl : (T.take k).length = k := by rw [List.length_take]; omega
  rw [List.set_append_right _ _ (by omega), hl, Nat.sub_self, List.drop_eq_getElem_cons (by omega), List.set_cons_zero, List.take_succ_eq_append_getElem h, List.append_assoc]
  rfl
/-- The extreme values of a line. -/
def lineL (sg : Int) (f : Nat → Int) (count n : Nat) : List Int := (List.range count).map (lineV sg f count n)
theorem lineL_len (sg : Int) (f : Nat → Int) (count n : Nat) : (lineL sg f count n).length = count := by unfold lineL; simp
theorem lineL_at (sg : Int) (f : Nat → Int) (n : Nat) {count k : Nat} (h : k < (lineL sg f count n).length) : (lineL sg f count n)[k] = lineV sg f count n k := by
  have e : (lineL sg f count n)[k]? = some (lineV sg f count n k) := by unfold lineL; rw [List.getElem?_map, List.getElem?_range (by rw [lineL_len] at h; exact h)]; rfl
  rw [List.getElem?_eq_getElem h] at e
  injection e
end Go.Proofs.Ytndablijjkchjaa
