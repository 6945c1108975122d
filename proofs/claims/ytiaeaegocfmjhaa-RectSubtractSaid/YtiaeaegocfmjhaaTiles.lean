/-
  The iterator that rect.Tiles returns.
-/
import Derived.RangeFuncNested
import Derived.RangeFuncBound
import Derived.RangeFuncCalls
import Derived.RangeFuncLeaves
import Derived.Shelf.Abstract
import Derived.Shelf.RegionOpen
import Derived.WalkKit
import Derived.OwnWalkIn
import Derived.TacticsInMore
import Derived.LoopNIn
import Derived.LoopIn
import Derived.Test.YtiaeaegocfmjhaaTileP
import Derived.Test.YtiaeaegocfmjhaaStarts
import Derived.Test.YtiaeaegocfmjhaaBase
import Derived.Test.YtiaeaegocfmjhaaProg
namespace Go.Proofs.Ytiaeaegocfmjhaa
open Go.RowKit Go.Shelf
set_option linter.unusedSimpArgs false
set_option linter.unusedVariables false
attribute [local go_sem] Oper.semAt_some

/-- What a round of the caller's leaves as it was. -/
structure Kt (B Br : Nat) (X Y : World) : Prop where
  size : X.heap.size ≤ Y.heap.size
  bk : ∀ k t cs, Bk X k t cs → (t = 3 ∨ t = 29 ∨ k = Br) → Bk Y k t cs
  other : ∀ k o, B ≤ k → X.heap[k]? = some o → o.isCells = false → Y.heap[k]? = some o
theorem Kt.trans {B Br : Nat} {X Y Z : World} (h : Kt B Br X Y) (k : Kt B Br Y Z) : Kt B Br X Z :=
  ⟨Nat.le_trans h.size k.size, fun i t cs hb ht => k.bk i t cs (h.bk i t cs hb ht) ht, fun i o hB hi ho => k.other i o hB (h.other i o hB hi ho) ho⟩
theorem Kt.keeps {B B' Br : Nat} {X Y : World} (h : Kt B Br X Y) (hB : B ≤ B') : KeepsFrom B' X Y := ⟨h.size, fun k o hk => h.other k o (Nat.le_trans hB hk)⟩
/-- Blocks that lie whole. -/
def Bs (W : World) (L : List (Nat × TypeId × Array Value)) : Prop := ∀ p ∈ L, Bk W p.1 p.2.1 p.2.2
def okB (Br : Nat) (p : Nat × TypeId × Array Value) : Prop := p.2.1 = 3 ∨ p.2.1 = 29 ∨ p.1 = Br
theorem Bs.kt {B Br : Nat} {X Y : World} {L : List (Nat × TypeId × Array Value)} (h : Bs X L) (hL : ∀ p ∈ L, okB Br p) (k : Kt B Br X Y) : Bs Y L := fun p hp => k.bk _ _ _ (h p hp) (hL p hp)
theorem Bs.alloc {W : World} {L : List (Nat × TypeId × Array Value)} (h : Bs W L) (o : Obj) : Bs (W.alloc o) L := fun p hp => (h p hp).alloc o
theorem Bk.own {W W' : World} {row : Option Nat} {k : Nat} {t : TypeId} {cs : Array Value} (h : Bk W k t cs) (hg : W.grownBy W' row) (hr : ∀ r, row = some r → ∃ o : Obj, W.heap[r]? = some o ∧ o.isCells = false) : Bk W' k t cs :=
  h.grown hg (fun e => by obtain ⟨o, ho, hc⟩ := hr k e.symm; rw [show W.heap[k]? = _ from h] at ho; cases ho; cases hc)
theorem bs_own {β : Type} (B : Nat) (L : List (Nat × TypeId × Array Value)) : OwnFrom B (fun (_ : β) W => Bs W L) := fun s X Y row hs hg hr p hp => (hs p hp).own hg (fun r e => (hr r e).2)
theorem own_mono {β : Type} {B B' : Nat} {I : β → World → Prop} (h : OwnFrom B I) (hB : B ≤ B') : OwnFrom B' I := fun s X Y row hs hg hr => h s X Y row hs hg (fun r e => ⟨Nat.le_trans hB (hr r e).1, (hr r e).2⟩)
theorem own_at {β γ : Type} {B : Nat} {I : β → World → Prop} (h : OwnFrom B I) (f : γ → β) : OwnFrom B (fun s W => I (f s) W) := fun s X Y row hs hg hr => h (f s) X Y row hs hg hr
/-- What the iterator of the starts wants kept. -/
def Kc (B2 B3 : Nat) (X Y : World) : Prop := ∀ p v, (p = B2 ∨ p = B3) → X.cell? ⟨p, 0, none⟩ = some v → Y.cell? ⟨p, 0, none⟩ = some v
theorem Kc.trans {B2 B3 : Nat} {X Y Z : World} (h : Kc B2 B3 X Y) (k : Kc B2 B3 Y Z) : Kc B2 B3 X Z := fun p v hp hv => k p v hp (h p v hp hv)
theorem Kc.grown {B2 B3 : Nat} {X Y : World} {row : Option Nat} (hg : X.grownBy Y row) (hr : ∀ r, row = some r → ∃ o : Obj, X.heap[r]? = some o ∧ o.isCells = false) : Kc B2 B3 X Y := fun p v _ hv => cell_kept hv hg hr
theorem Kc.put {B2 B3 : Nat} (W : World) (l : Nat) (o o' : Obj) (h : W.heap[l]? = some o) (hc : o.isCells = false) : Kc B2 B3 W (W.putObj l o') := Kc.grown (grownBy_putObj' W l o') (fun r e => by cases e; exact ⟨o, h, hc⟩)
theorem Kc.alloc {B2 B3 : Nat} (W : World) (o : Obj) : Kc B2 B3 W (W.alloc o) := Kc.grown (World.grownBy_alloc W o none) (fun r e => by cases e)
theorem bk_cell {W : World} {k : Nat} {t : TypeId} {u : Value} (h : Bk W k t #[u]) : W.cell? ⟨k, 0, none⟩ = some u := by rw [h.rules.1]; rfl
theorem Kc.of {B2 B3 : Nat} {X Y : World} {t : TypeId} {u v : Value} (h2 : Bk X B2 t #[u]) (k2 : Bk Y B2 t #[u]) (h3 : Bk X B3 t #[v]) (k3 : Bk Y B3 t #[v]) : Kc B2 B3 X Y := by
  rintro p x (rfl | rfl) hx
  · rw [bk_cell h2] at hx; rw [bk_cell k2]; exact hx
  · rw [bk_cell h3] at hx; rw [bk_cell k3]; exact hx

abbrev rcv (r : Rc) : Value := .agg #[.int .i64 r.x0, .int .i64 r.y0, .int .i64 r.x1, .int .i64 r.y1]
/-- The tiles of the rows that begin at these numbers. -/
def rowsT (c : Rc) (w h : Int) (ys : List Int) : List Rc := ys.flatMap fun y => (startP c.x0 c.x1 w).map fun x => tileR c w h x y

theorem startP_len (a b s : Int) : (startP a b s).length = cntP a b s := by simp [startP]
theorem rowsT_len (c : Rc) (w h : Int) (ys : List Int) : (rowsT c w h ys).length = ys.length * cntP c.x0 c.x1 w := by
  induction ys with
  | nil => simp [rowsT]
  | cons y ys ih => rw [List.length_cons, Nat.add_mul, ← ih]; simp [rowsT, startP_len]; omega
set_option maxRecDepth 100000 in
set_option maxHeartbeats 4000000 in
theorem tiles1_in (F : Fence) (n : Nat) (hf1 : F.fn 51) (hf2 : F.fn 52) (hf3 : F.fn 55) (hro : F.round = none) (hn : 8 ≤ n) (l Bw Bh Br : Nat) (c : Rc)
    (hx0 : -4096 ≤ c.x0 ∧ c.x0 ≤ 4096) (hy0 : -4096 ≤ c.y0 ∧ c.y0 ≤ 4096) (hx1 : -4096 ≤ c.x1 ∧ c.x1 ≤ 4096) (hy1 : -4096 ≤ c.y1 ∧ c.y1 ≤ 4096) (w h : Int) (hw2 : w ≤ 9223372036854775807) (hh2 : h ≤ 9223372036854775807)
    (J Jx : List Rc → World → Prop) (W : World) (hJ : OwnFrom W.heap.size J) (hJx : OwnFrom W.heap.size Jx)
    (hY : ∀ pre x X, J pre X → pre.length < (if 1 ≤ w ∧ 1 ≤ h then tilesC c w h else []).length → YieldAt F (n - 5) Try.prog l #[rcv x] X fun e Y => Kt W.heap.size Br X Y ∧ ((e = .returned (.bool true) ∧ J (pre ++ [x]) Y) ∨ (e = .returned (.bool false) ∧ Jx (pre ++ [x]) Y)))
    (hcw : Bk W Bw 3 #[.int .i64 w]) (hch : Bk W Bh 3 #[.int .i64 h]) (hcr : Bk W Br 23 #[.int .i64 c.x0, .int .i64 c.y0, .int .i64 c.x1, .int .i64 c.y1]) (h0 : J [] W) :
    CallsIn F n Try.prog 51 #[.func (.yield l) #[] #[], .pointer (some ⟨Bw, 0, none⟩), .pointer (some ⟨Bh, 0, none⟩), .pointer (some ⟨Br, 0, none⟩)] W fun e Y => (∃ v, e = .returned v) ∧
      (J (if 1 ≤ w ∧ 1 ≤ h then tilesC c w h else []) Y ∨ ∃ pre, pre <+: (if 1 ≤ w ∧ 1 ≤ h then tilesC c w h else []) ∧ Jx pre Y) := by
  refine callsIn_of_wp_marks Try.func51 rfl hf1 ?_ hro
  simp only [Try.ntmps51, List.size_toArray, List.length_cons, List.length_nil, Nat.reduceAdd, Nat.reduceSub, Array.replicate_succ, Array.replicate_zero, List.push_toArray, List.append_toArray, List.nil_append, List.cons_append]
  have h1 : 1 ≤ n := by omega
  obtain ⟨cw1, cw2, cw3, cw4, cw5⟩ := hcw.rules
  obtain ⟨ch1, ch2, ch3, ch4, ch5⟩ := hch.rules
  obtain ⟨cr1, cr2, cr3, cr4, cr5⟩ := hcr.rules
  by_cases hw : w < 1
  · rw [if_neg (by omega)]
    gi_wp2
    exact ⟨_, results_none rfl _ _ _, ⟨_, rfl⟩, .inl (hJ.alloc _ h0)⟩
  by_cases hh : h < 1
  · rw [if_neg (by omega)]
    gi_wp2
    exact ⟨_, results_none rfl _ _ _, ⟨_, rfl⟩, .inl (hJ.alloc _ h0)⟩
  have hif : (if 1 ≤ w ∧ 1 ≤ h then tilesC c w h else []) = rowsT c w h (startP c.y0 c.y1 h) := by rw [if_pos ⟨by omega, by omega⟩]; rfl
  rw [hif] at hY ⊢
  clear hif
  gi_wp2_with (gi_at_call 52; refine (starts_in F (n - 1) hf2 hro _ _ _ _).mono ?_; rintro e w' ⟨rfl, rfl⟩)
  obtain ⟨L0, hL0⟩ : ∃ L0 : List (Nat × TypeId × Array Value), L0 = [(W.heap.size, 29, #[.func (.yield l) #[] #[]]), (Bw, 3, #[.int .i64 w]), (Bh, 3, #[.int .i64 h]), (Br, 23, #[.int .i64 c.x0, .int .i64 c.y0, .int .i64 c.x1, .int .i64 c.y1]), (W.heap.size + 1 + 1, 3, #[.int .i64 c.y1]), (W.heap.size + 1 + 1 + 1, 3, #[.int .i64 h])] := ⟨_, rfl⟩
  have k1 : Bk ((((W.alloc (.cells #[.func (.yield l) #[] #[]] 29)).alloc (.cells #[.int .i64 c.y0] 3)).alloc (.cells #[.int .i64 c.y1] 3)).alloc (.cells #[.int .i64 h] 3)) (W.heap.size + 1) 3 #[.int .i64 c.y0] := ((Bk.new _ _ _ (by simp)).alloc _).alloc _
  have kL : Bs ((((W.alloc (.cells #[.func (.yield l) #[] #[]] 29)).alloc (.cells #[.int .i64 c.y0] 3)).alloc (.cells #[.int .i64 c.y1] 3)).alloc (.cells #[.int .i64 h] 3)) L0 := by
    intro p hp
    rw [hL0] at hp
    simp only [List.mem_cons, List.not_mem_nil, or_false] at hp
    rcases hp with rfl | rfl | rfl | rfl | rfl | rfl
    · exact (((Bk.new _ _ _ rfl).alloc _).alloc _).alloc _
    · exact (((hcw.alloc _).alloc _).alloc _).alloc _
    · exact (((hch.alloc _).alloc _).alloc _).alloc _
    · exact (((hcr.alloc _).alloc _).alloc _).alloc _
    · exact (Bk.new _ _ _ (by simp)).alloc _
    · exact Bk.new _ _ _ (by simp)
  have hsz : ((((W.alloc (.cells #[.func (.yield l) #[] #[]] 29)).alloc (.cells #[.int .i64 c.y0] 3)).alloc (.cells #[.int .i64 c.y1] 3)).alloc (.cells #[.int .i64 h] 3)).heap.size = W.heap.size + 4 := by simp
  have hj0 : J [] ((((W.alloc (.cells #[.func (.yield l) #[] #[]] 29)).alloc (.cells #[.int .i64 c.y0] 3)).alloc (.cells #[.int .i64 c.y1] 3)).alloc (.cells #[.int .i64 h] 3)) := hJ.alloc _ (hJ.alloc _ (hJ.alloc _ (hJ.alloc _ h0)))
  obtain ⟨W0, hW0⟩ : ∃ W0, (((W.alloc (.cells #[.func (.yield l) #[] #[]] 29)).alloc (.cells #[.int .i64 c.y0] 3)).alloc (.cells #[.int .i64 c.y1] 3)).alloc (.cells #[.int .i64 h] 3) = W0 := ⟨_, rfl⟩
  rw [hW0] at k1 kL hsz hj0 ⊢
  clear hW0
  have ok0 : ∀ p ∈ L0, okB Br p := by
    intro p hp
    rw [hL0] at hp
    simp only [List.mem_cons, List.not_mem_nil, or_false] at hp
    rcases hp with rfl | rfl | rfl | rfl | rfl | rfl <;> simp [okB]
  have get : ∀ X, Bs X L0 → Bk X W.heap.size 29 #[.func (.yield l) #[] #[]] ∧ Bk X Bw 3 #[.int .i64 w] ∧ Bk X Bh 3 #[.int .i64 h] ∧ Bk X Br 23 #[.int .i64 c.x0, .int .i64 c.y0, .int .i64 c.x1, .int .i64 c.y1] ∧ Bk X (W.heap.size + 1 + 1) 3 #[.int .i64 c.y1] ∧ Bk X (W.heap.size + 1 + 1 + 1) 3 #[.int .i64 h] := fun X hX =>
    ⟨hX (_, _, _) (by rw [hL0]; simp), hX (_, _, _) (by rw [hL0]; simp), hX (_, _, _) (by rw [hL0]; simp), hX (_, _, _) (by rw [hL0]; simp), hX (_, _, _) (by rw [hL0]; simp), hX (_, _, _) (by rw [hL0]; simp)⟩
  clear hL0
  obtain ⟨_, _, _, _, k2, k3⟩ := get _ kL
  refine wpIn_rangeFunc_ownH hro h1 (gf := 55) (lb := #[.pointer (some ⟨W.heap.size + 1, 0, none⟩), .pointer (some ⟨W.heap.size + 1 + 1, 0, none⟩), .pointer (some ⟨W.heap.size + 1 + 1 + 1, 0, none⟩)]) rfl hf3 (enters_of Try.func55 (by kernel_rfl) rfl)
    (starts_stops F (n - 1) hf3 hro (by omega) (W.heap.size + 1) (W.heap.size + 1 + 1) (W.heap.size + 1 + 1 + 1) c.y0 c.y1 h (by omega) hy0 hy1 hh2 (Kc (W.heap.size + 1 + 1) (W.heap.size + 1 + 1 + 1)) (fun X Y v hk hv => hk _ v (.inl rfl) hv) (fun X Y v hk hv => hk _ v (.inr rfl) hv) W0 (by omega) (by omega) (by omega) (bk_cell k1) (bk_cell k2) (bk_cell k3))
    (fun h k => Kc.trans h k) (fun X l o o' _ hl hc _ => Kc.put X l o o' hl hc) (Below.refl _ _) (fun _ => rfl)
    (fun pre X => J (rowsT c w h (raw pre)) X ∧ Bs X L0)
    (fun cd pre X => cd = .ret ∧ ∃ q, q <+: rowsT c w h (raw pre) ∧ Jx q X)
    (OwnFrom.and (own_mono (own_at hJ _) (by omega)) (bs_own _ _))
    (fun cd s X Y row hs hg hr => ⟨hs.1, hs.2.choose, hs.2.choose_spec.1, hJx _ X Y row hs.2.choose_spec.2 hg (fun r e => ⟨by have := (hr r e).1; omega, (hr r e).2⟩)⟩)
    ⟨hj0, kL⟩
    (fun x a' X => ∃ By, Bk X By 3 #[.int .i64 x.1] ∧ a' = { tmps := #[.func (.yield l) #[] #[], .pointer (some ⟨Bw, 0, none⟩), .pointer (some ⟨Bh, 0, none⟩), .pointer (some ⟨Br, 0, none⟩), .pointer (some ⟨W.heap.size, 0, none⟩), .pointer (some ⟨By, 0, none⟩), undef, undef, .int .i64 w, .bool false, .bool false, .int .i64 h, .bool false, .bool false, .pointer (some ⟨Br, 1, none⟩), .int .i64 c.y0, .pointer (some ⟨Br, 3, none⟩), .int .i64 c.y1, .int .i64 h, .func (.func 55) #[] #[.pointer (some ⟨W.heap.size + 1, 0, none⟩), .pointer (some ⟨W.heap.size + 1 + 1, 0, none⟩), .pointer (some ⟨W.heap.size + 1 + 1 + 1, 0, none⟩)], .int .i64 x.1, undef, undef, undef, undef, undef, undef, undef, undef, undef, undef, undef, undef, undef, undef, undef, undef, undef, undef, undef, undef, undef, undef, undef, undef, undef, undef, undef, undef, undef, undef], defers := [] })
    (fun x a' _ X Y row hs hg hr => by obtain ⟨By, e1, e2⟩ := hs; exact ⟨By, e1.own hg (fun r e => (hr r e).2), e2⟩)
    ?assign ?body ?done ?stop
  case assign =>
    rintro l0 pre x X K ⟨hj, hb⟩ hK
    gi_wp2
    exact hK _ _ ((KeepsOthers.alloc _ _).from _) (Kc.alloc _ _) ⟨(own_mono hJ (by omega : W.heap.size ≤ W0.heap.size)).alloc _ hj, hb.alloc _⟩ ⟨X.heap.size, Bk.new _ _ _ rfl, rfl⟩
  case body =>
    rintro l0 pre y a' X hl0 ⟨r0, hr0⟩ ⟨hj, hb⟩ ⟨By, kY, rfl⟩ hpre
    obtain ⟨g1, g2, g3, g4, g5, g6⟩ := get _ hb
    obtain ⟨w1, w2, w3, w4, w5⟩ := g2.rules
    obtain ⟨r1, r2, r3, r4, r5⟩ := g4.rules
    have h1' : 1 ≤ n - 1 - 1 := by omega
    gi_wp2_with (gi_at_call 52; refine (CallsIn.inRound l0 (starts_in F (n - 1 - 1 - 1) hf2 hro _ _ _ _)).mono ?_; rintro e w' ⟨rfl, rfl⟩)
    have m1 : Bk (((X.alloc (.cells #[.int .i64 c.x0] 3)).alloc (.cells #[.int .i64 c.x1] 3)).alloc (.cells #[.int .i64 w] 3)) X.heap.size 3 #[.int .i64 c.x0] := ((Bk.new _ _ _ rfl).alloc _).alloc _
    have m2 : Bk (((X.alloc (.cells #[.int .i64 c.x0] 3)).alloc (.cells #[.int .i64 c.x1] 3)).alloc (.cells #[.int .i64 w] 3)) (X.heap.size + 1) 3 #[.int .i64 c.x1] := (Bk.new _ _ _ (by simp)).alloc _
    have m3 : Bk (((X.alloc (.cells #[.int .i64 c.x0] 3)).alloc (.cells #[.int .i64 c.x1] 3)).alloc (.cells #[.int .i64 w] 3)) (X.heap.size + 1 + 1) 3 #[.int .i64 w] := Bk.new _ _ _ (by simp)
    have kY1 := ((kY.alloc (.cells #[.int .i64 c.x0] 3)).alloc (.cells #[.int .i64 c.x1] 3)).alloc (.cells #[.int .i64 w] 3)
    have hb1 := ((hb.alloc (.cells #[.int .i64 c.x0] 3)).alloc (.cells #[.int .i64 c.x1] 3)).alloc (.cells #[.int .i64 w] 3)
    have hJW := own_mono hJ (by omega : W.heap.size ≤ W0.heap.size)
    have hj1 := hJW.alloc (.cells #[.int .i64 w] 3) (hJW.alloc (.cells #[.int .i64 c.x1] 3) (hJW.alloc (.cells #[.int .i64 c.x0] 3) hj))
    have hk1 : KeepsFrom W0.heap.size X (((X.alloc (.cells #[.int .i64 c.x0] 3)).alloc (.cells #[.int .i64 c.x1] 3)).alloc (.cells #[.int .i64 w] 3)) := (((KeepsOthers.alloc _ _).trans (KeepsOthers.alloc _ _)).trans (KeepsOthers.alloc _ _)).from _
    have hs1 : (((X.alloc (.cells #[.int .i64 c.x0] 3)).alloc (.cells #[.int .i64 c.x1] 3)).alloc (.cells #[.int .i64 w] 3)).heap.size = X.heap.size + 3 := by simp
    have hl1 : l0 < X.heap.size := (Array.getElem?_eq_some_iff.1 hr0).1
    have hr1 : (((X.alloc (.cells #[.int .i64 c.x0] 3)).alloc (.cells #[.int .i64 c.x1] 3)).alloc (.cells #[.int .i64 w] 3)).heap[l0]? = some (.loop r0) := hk1.same _ _ hl0 hr0 rfl
    obtain ⟨X0, hX0⟩ : ∃ X0, ((X.alloc (.cells #[.int .i64 c.x0] 3)).alloc (.cells #[.int .i64 c.x1] 3)).alloc (.cells #[.int .i64 w] 3) = X0 := ⟨_, rfl⟩
    rw [hX0] at m1 m2 m3 kY1 hb1 hj1 hk1 hs1 hr1 ⊢
    clear hX0 w1 w2 w3 w4 w5 r1 r2 r3 r4 r5 g1 g2 g3 g4 g5 g6
    have hkL := hk1
    refine wpIn_rangeFunc_ownN (l₀ := l0) (r₀ := r0) rfl hr1 h1' (gf := 55) (lb := #[.pointer (some ⟨X.heap.size, 0, none⟩), .pointer (some ⟨X.heap.size + 1, 0, none⟩), .pointer (some ⟨X.heap.size + 1 + 1, 0, none⟩)]) rfl hf3 (enters_of Try.func55 (by kernel_rfl) rfl)
      ((starts_stops F (n - 1 - 1 - 1) hf3 hro (by omega) X.heap.size (X.heap.size + 1) (X.heap.size + 1 + 1) c.x0 c.x1 w (by omega) hx0 hx1 hw2 (Kc (X.heap.size + 1) (X.heap.size + 1 + 1)) (fun X Y v hk hv => hk _ v (.inl rfl) hv) (fun X Y v hk hv => hk _ v (.inr rfl) hv) X0 (by omega) (by omega) (by omega) (bk_cell m1) (bk_cell m2) (bk_cell m3)).inRound l0)
      (fun h k => Kc.trans h k) (fun X l o o' _ hl hc _ => Kc.put X l o o' hl hc) (Below.refl _ _) (fun _ => rfl)
      (fun pre' X' => (J (rowsT c w h (raw pre) ++ (raw pre').map fun x => tileR c w h x y.1) X' ∧ (Bs X' L0 ∧ Bs X' [(By, 3, #[.int .i64 y.1]), (X.heap.size + 1, 3, #[.int .i64 c.x1]), (X.heap.size + 1 + 1, 3, #[.int .i64 w])])) ∧ KeepsFrom W0.heap.size X X')
      (fun cd pre' X' => (cd = .ret ∧ ∃ q, q <+: rowsT c w h (raw pre) ++ ((raw pre').map fun x => tileR c w h x y.1) ∧ Jx q X') ∧ KeepsFrom W0.heap.size X X')
      (OwnFrom.and (OwnFrom.and (own_mono (own_at hJ _) (by omega)) (OwnFrom.and (bs_own _ _) (bs_own _ _))) (ownFrom_keepsFrom (by omega)))
      (fun cd => OwnFrom.and (fun s X Y row hs hg hr => ⟨hs.1, hs.2.choose, hs.2.choose_spec.1, hJx _ X Y row hs.2.choose_spec.2 hg (fun r e => ⟨by have := (hr r e).1; omega, (hr r e).2⟩)⟩) (ownFrom_keepsFrom (by omega)))
      ⟨⟨by simpa [raw] using hj1, hb1, ?bs⟩, hk1⟩
      (fun x a' _ => a' = { tmps := #[.func (.yield l) #[] #[], .pointer (some ⟨Bw, 0, none⟩), .pointer (some ⟨Bh, 0, none⟩), .pointer (some ⟨Br, 0, none⟩), .pointer (some ⟨W.heap.size, 0, none⟩), .pointer (some ⟨By, 0, none⟩), .int .i64 x.1, undef, .int .i64 w, .bool false, .bool false, .int .i64 h, .bool false, .bool false, .pointer (some ⟨Br, 1, none⟩), .int .i64 c.y0, .pointer (some ⟨Br, 3, none⟩), .int .i64 c.y1, .int .i64 h, .func (.func 55) #[] #[.pointer (some ⟨W.heap.size + 1, 0, none⟩), .pointer (some ⟨W.heap.size + 1 + 1, 0, none⟩), .pointer (some ⟨W.heap.size + 1 + 1 + 1, 0, none⟩)], .int .i64 y.1, .pointer (some ⟨Br, 0, none⟩), .int .i64 c.x0, .pointer (some ⟨Br, 2, none⟩), .int .i64 c.x1, .int .i64 w, .func (.func 55) #[] #[.pointer (some ⟨X.heap.size, 0, none⟩), .pointer (some ⟨X.heap.size + 1, 0, none⟩), .pointer (some ⟨X.heap.size + 1 + 1, 0, none⟩)], .int .i64 x.1, undef, undef, undef, undef, undef, undef, undef, undef, undef, undef, undef, undef, undef, undef, undef, undef, undef, undef, undef, undef, undef, undef, undef], defers := [] })
      (fun _ _ _ _ _ _ hs _ _ => hs)
      ?assign2 ?body2 ?done2 ?stop2
    case bs =>
      intro p hp
      simp only [List.mem_cons, List.not_mem_nil, or_false] at hp
      rcases hp with rfl | rfl | rfl
      · exact kY1
      · exact m2
      · exact m3
    case assign2 =>
      rintro l2 pre' x X' K hi hK
      gi_wp2
      exact hK _ _ (KeepsFrom.refl _ _) (fun _ _ _ h => h) hi rfl
    case body2 =>
      rintro l2 pre' x a'' X' _ _ ⟨⟨hj2, hb2, hb3⟩, hk2⟩ rfl hpre'
      obtain ⟨g1, g2, g3, g4, g5, g6⟩ := get _ hb2
      have gY : Bk X' By 3 #[.int .i64 y.1] := hb3 (_, _, _) (by simp)
      have gA : Bk X' (X.heap.size + 1) 3 #[.int .i64 c.x1] := hb3 (_, _, _) (by simp)
      have gB : Bk X' (X.heap.size + 1 + 1) 3 #[.int .i64 w] := hb3 (_, _, _) (by simp)
      obtain ⟨f1, f2, f3, f4, f5⟩ := g1.rules
      obtain ⟨w1, w2, w3, w4, w5⟩ := g2.rules
      obtain ⟨v1, v2, v3, v4, v5⟩ := g3.rules
      obtain ⟨r1, r2, r3, r4, r5⟩ := g4.rules
      obtain ⟨y1, y2, y3, y4, y5⟩ := gY.rules
      have by0 := start_mem (by omega) y.2
      have bx0 := start_mem (by omega) x.2
      have if1 := min_if w (c.x1 - x.1)
      have if2 := min_if h (c.y1 - y.1)
      have hlen : (rowsT c w h (raw pre) ++ (raw pre').map fun x => tileR c w h x y.1).length < (rowsT c w h (startP c.y0 c.y1 h)).length := by
        rw [List.length_append, rowsT_len, rowsT_len, raw_len, List.length_map, raw_len, startP_len]
        have h3 : (pre.length + 1) * cntP c.x0 c.x1 w ≤ cntP c.y0 c.y1 h * cntP c.x0 c.x1 w := Nat.mul_le_mul_right _ (by omega)
        rw [Nat.add_mul] at h3
        omega
      obtain ⟨fn, tmps, assign, body, hy, hR⟩ := hY _ (tileR c w h x.1 y.1) (X'.alloc (.cells #[.int .i64 x.1, .int .i64 y.1, .int .i64 (x.1 + min w (c.x1 - x.1)), .int .i64 (y.1 + min h (c.y1 - y.1))] 23)) (hJW.alloc _ hj2) hlen
      have hy' : (Instr.yield l #[.agg #[.int .i64 x.1, .int .i64 y.1, .int .i64 (x.1 + min w (c.x1 - x.1)), .int .i64 (y.1 + min h (c.y1 - y.1))]]).run Try.prog (X'.alloc (.cells #[.int .i64 x.1, .int .i64 y.1, .int .i64 (x.1 + min w (c.x1 - x.1)), .int .i64 (y.1 + min h (c.y1 - y.1))] 23)) = .ok (.round l fn tmps assign body) (X'.alloc (.cells #[.int .i64 x.1, .int .i64 y.1, .int .i64 (x.1 + min w (c.x1 - x.1)), .int .i64 (y.1 + min h (c.y1 - y.1))] 23)) := hy
      clear hy
      have hn5 : 1 ≤ n - 1 - 1 - 1 - 1 := by omega
      gi_wp2
      refine (show RoundIn ((F.inRound l0).inRound l2) (n - 1 - 1 - 1 - 1 - 1) _ _ _ _ _ _ _ _ from hR).mono ?_
      rintro e W3 ⟨hk3, ⟨rfl, hJ3⟩ | ⟨rfl, hJx3⟩⟩
      · gi_wp2
        have gA3 := hk3.bk _ _ _ (gA.alloc _) (.inl rfl)
        have gB3 := hk3.bk _ _ _ (gB.alloc _) (.inl rfl)
        have kf : KeepsFrom X0.heap.size X' W3 := ((KeepsOthers.alloc _ _).from _).trans (hk3.keeps (by omega))
        have kf0 : KeepsFrom W0.heap.size X' W3 := ((KeepsOthers.alloc _ _).from _).trans (hk3.keeps (by omega))
        refine ⟨kf, Kc.of gA gA3 gB gB3, ⟨?_, (hb2.alloc _).kt ok0 hk3, ?_⟩, hk2.trans kf0⟩
        · rw [raw_snoc, List.map_append]
          simpa using hJ3
        · intro p hp
          simp only [List.mem_cons, List.not_mem_nil, or_false] at hp
          rcases hp with rfl | rfl | rfl
          · exact hk3.bk _ _ _ (gY.alloc _) (.inl rfl)
          · exact gA3
          · exact gB3
      · gi_wp2
        have kf : KeepsFrom X0.heap.size X' W3 := ((KeepsOthers.alloc _ _).from _).trans (hk3.keeps (by omega))
        have kf0 : KeepsFrom W0.heap.size X' W3 := ((KeepsOthers.alloc _ _).from _).trans (hk3.keeps (by omega))
        refine ⟨kf, ⟨rfl, _, ?_, hJx3⟩, hk2.trans kf0⟩
        rw [raw_snoc, List.map_append]
        simp
    case done2 =>
      rintro xs X' hxs ⟨⟨hj2, hb2, hb3⟩, hk2⟩
      gi_wp2
      obtain ⟨_, _, _, _, q5, q6⟩ := get _ hb2
      obtain ⟨_, _, _, _, p5, p6⟩ := get _ hb
      refine ⟨hk2, Kc.of p5 q5 p6 q6, ?_, hb2⟩
      rw [hxs] at hj2
      rw [raw_snoc]
      simpa [rowsT] using hj2
    case stop2 =>
      rintro cd pre' X' hpre' ⟨⟨rfl, q, hq, hjx⟩, hk2⟩
      gi_wp2
      refine ⟨hk2, rfl, q, hq.trans ?_, hjx⟩
      obtain ⟨t, ht⟩ := hpre'
      rw [raw_snoc]
      refine ⟨t.map fun x => tileR c w h x y.1, ?_⟩
      simp [rowsT, ← ht]
  case done =>
    rintro D xs X hD hxs ⟨hj, hb⟩ hK
    gi_wp2
    refine ⟨by simp, .inl ⟨_, _, rfl, run_takeDeferred hK, ?_⟩⟩
    refine ⟨_, results_none rfl _ _ _, ⟨_, rfl⟩, .inl ?_⟩
    rw [hxs] at hj
    exact hJ.putObj _ hj (by omega) hK rfl
  case stop =>
    rintro D cd pre X hD hpre ⟨rfl, q, hq, hjx⟩ hK
    gi_wp2
    refine ⟨by simp, .inl ⟨_, _, rfl, run_takeDeferred hK, ?_⟩⟩
    refine ⟨_, results_none rfl _ _ _, ⟨_, rfl⟩, .inr ⟨q, hq.trans ?_, hJx.putObj _ hjx (by omega) hK rfl⟩⟩
    obtain ⟨t, ht⟩ := hpre
    rw [← ht]
    exact ⟨rowsT c w h t, by simp [rowsT]⟩
end Go.Proofs.Ytiaeaegocfmjhaa
