/-
  collect: the tiles that a loop over rect.Tiles meets, at most so many.
-/
import Derived.RangeFuncNested
import Derived.RangeFuncLeaves
import Derived.RangeFuncCalls
import Derived.Shelf.RegionOpen
import Derived.OwnWalkIn
import Derived.TacticsInMore
import Derived.Test.YtiaeaegocfmjhaaTilesC
import Derived.Test.YtiaeaegocfmjhaaSame
import Derived.Test.YtiaeaegocfmjhaaEqF
namespace Go.Proofs.Ytiaeaegocfmjhaa
open Go.RowKit Go.Shelf
set_option linter.unusedSimpArgs false
set_option linter.unusedVariables false
attribute [local go_sem] Oper.semAt_some

theorem cnt_max {a b s : Int} (hs : 1 ≤ s) : (cntP a b s : Int) ≤ max (b - a) 0 := by
  rcases Nat.eq_zero_or_pos (cntP a b s) with h | h
  · omega
  · have h1 := (cnt_iff hs (a := a) (b := b) (cntP a b s - 1)).1 (by omega)
    have h2 : ((cntP a b s - 1 : Nat) : Int) * 1 ≤ ((cntP a b s - 1 : Nat) : Int) * s := Int.mul_le_mul_of_nonneg_left hs (by omega)
    omega
theorem tilesL_len (r : Rc) (w h : Int) : (tilesL r w h).length ≤ 67108864 := by
  unfold tilesL
  split
  · rename_i hwh
    have hb := canon_bd r
    have h1 := cnt_max (a := (canonR r).x0) (b := (canonR r).x1) hwh.1
    have h2 := cnt_max (a := (canonR r).y0) (b := (canonR r).y1) hwh.2
    show (rowsT (canonR r) w h (startP (canonR r).y0 (canonR r).y1 h)).length ≤ _
    rw [rowsT_len, startP_len]
    have : cntP (canonR r).y0 (canonR r).y1 h * cntP (canonR r).x0 (canonR r).x1 w ≤ 8192 * 8192 := Nat.mul_le_mul (by omega) (by omega)
    omega
  · simp

/-- What a loop's own steps keep. -/
theorem Kt.refl (B Br : Nat) (X : World) : Kt B Br X X := ⟨Nat.le_refl _, fun _ _ _ h _ => h, fun _ _ _ h _ => h⟩
theorem Kt.alloc {B Br : Nat} {X Y : World} (h : Kt B Br X Y) (o : Obj) : Kt B Br X (Y.alloc o) :=
  h.trans ⟨by simp, fun _ _ _ hb _ => hb.alloc o, fun k o' _ hk _ => (Below.heap_alloc Y o k (Array.getElem?_eq_some_iff.1 hk).1).trans hk⟩
theorem Kt.put {B Br : Nat} {X Y : World} (h : Kt B Br X Y) {l : Nat} {o : Obj} (o' : Obj) (hl : l < B) (ho : Y.heap[l]? = some o) (hc : o.isCells = false) : Kt B Br X (Y.putObj l o') :=
  h.trans ⟨by simp, fun _ _ _ hb _ => hb.own (grownBy_putObj' Y l o') (fun r e => by cases e; exact ⟨o, ho, hc⟩), fun k o2 hk h2 _ => (World.putObj_heap_other (by omega)).trans h2⟩
theorem Kt.set {B Br : Nat} {X Y : World} (h : Kt B Br X Y) {g : Nat} {t : TypeId} {cs : Array Value} (hb : Bk Y g t cs) (ht : ¬ t = 3) (ht2 : ¬ t = 29) (hg : g ≠ Br) (i : Nat) (u : Value) : Kt B Br X (Y.setCell ⟨g, i, none⟩ u) :=
  h.trans ⟨(KeepsWalks.setCell Y _ u).size, fun k t' cs' hk hx => hk.far (p := ⟨g, i, none⟩) (by
      intro e
      have e : k = g := e
      subst e
      have := hk.symm.trans hb
      injection this with this
      injection this with _ e2
      subst e2
      rcases hx with hx | hx | hx
      · exact ht hx
      · exact ht2 hx
      · exact hg hx) u, (KeepsOthers.setCell Y _ u |>.from B).same⟩
theorem Kt.grown {B Br : Nat} {X Y Z : World} (h : Kt B Br X Y) {base : Nat} {v : Value} {l : List Rc} (ho : OwnL encR 23 4 Y base v l) (hg : Y.grownBy Z v.ownBlock) (hb : Br < base) : Kt B Br X Z := by
  refine h.trans ⟨hg.size, fun k t cs hk hx => hk.grown hg ?_, fun k o _ hk hc => (hg.block k (Array.getElem?_eq_some_iff.1 hk).1 ?_).trans hk⟩
  · intro e
    rcases ho.2 with ⟨rfl, _⟩ | ⟨g, cap, cur, rfl, hbg, hh, _⟩
    · simp [Value.ownBlock] at e
    · obtain rfl : k = g := by simpa [Value.ownBlock] using e
      have := (show Y.heap[k]? = _ from hk).symm.trans hh
      injection this with this
      injection this with _ e2
      subst e2
      rcases hx with hx | hx | hx
      · revert hx; decide
      · revert hx; decide
      · omega
  · intro e
    rcases ho.2 with ⟨rfl, _⟩ | ⟨g, cap, cur, rfl, hbg, hh, _⟩
    · simp [Value.ownBlock] at e
    · obtain rfl : k = g := by simpa [Value.ownBlock] using e
      rw [hh] at hk; cases hk; cases hc
theorem ownL_put {base : Nat} {v : Value} {l : List Rc} {W : World} (h : OwnL encR 23 4 W base v l) {k : Nat} {o : Obj} (o' : Obj) (hl : W.heap[k]? = some o) (ho : o.isCells = false) : OwnL encR 23 4 (W.putObj k o') base v l := ownsRow_putObj h o' hl ho

theorem ownL_own {base : Nat} {v : Value} {l : List Rc} {X Y : World} {row : Option Nat} (h : OwnL encR 23 4 X base v l) (hg : X.grownBy Y row) (hr : ∀ r, row = some r → ∃ o : Obj, X.heap[r]? = some o ∧ o.isCells = false) : OwnL encR 23 4 Y base v l := by
  refine World.ownsRow.kept h hg ?_
  rcases h.2 with ⟨rfl, _⟩ | ⟨g, cap, cur, rfl, _, hgb, _⟩
  · exact .inl rfl
  · refine .inr fun e => ?_
    obtain ⟨o, ho, hc⟩ := hr g (by simpa [Value.ownBlock] using e.symm)
    rw [hgb] at ho; cases ho; cases hc

set_option maxRecDepth 100000 in
set_option maxHeartbeats 4000000 in
theorem collect_any (a b c d w h most : Int) (hw : -9223372036854775808 ≤ w ∧ w ≤ 9223372036854775807) (hh : -9223372036854775808 ≤ h ∧ h ≤ 9223372036854775807) (W : World) :
    Calls Try.prog 38 #[rcv ⟨a, b, c, d⟩, .int .i64 w, .int .i64 h, .int .i64 most] W fun e W' => ∃ v, e = .returned (.tuple #[v, .bool true]) ∧ OwnL encR 23 4 W' W.heap.size v ((tilesL ⟨a, b, c, d⟩ w h).take most.toNat) ∧ Below W.heap.size W W' := by
  obtain ⟨F, hF⟩ : ∃ F : Fence, F = Fence.wide := ⟨_, rfl⟩
  obtain ⟨n, hn⟩ : ∃ n : Nat, n = 20 := ⟨_, rfl⟩
  refine callsIn_wide (n := n).1 ?_
  rw [← hF]
  have hfn : ∀ f, F.fn f := by subst hF; intro f; trivial
  have hro : F.round = none := by subst hF; rfl
  have lift : ∀ {k f args w R}, Calls Try.prog f args w R → CallsIn F k Try.prog f args w R := by subst hF; exact callsIn_wide.2
  clear hF
  have h1 : 1 ≤ n := by omega
  refine callsIn_of_wp_marks Try.func38 rfl (hfn _) ?_ hro
  simp only [Try.ntmps38, List.size_toArray, List.length_cons, List.length_nil, Nat.reduceAdd, Nat.reduceSub, Array.replicate_succ, Array.replicate_zero, List.push_toArray, List.append_toArray, List.nil_append, List.cons_append]
  have heq := eql_nilF (.func 51)
  gi_wp2_with (gi_at_call 46; refine (lift (tiles_any a b c d w h _)).mono ?_; rintro e w1 ⟨Bw, Bh, Br, rfl, kw, kh, kr, hb1⟩)
  have hbW : Below W.heap.size W w1 := bstep hb1 (balloc (balloc (Below.refl _ _) _) _)
  have km1 : Bk w1 (W.heap.size + 1) 3 #[.int .i64 most] := (Bk.new _ _ _ (by simp)).below hb1
  have kl0 : Bk (w1.alloc (.cells #[.slice none 0 0] 25)) w1.heap.size 25 #[.slice none 0 0] := Bk.new _ _ _ rfl
  have km0 := km1.alloc (.cells #[.slice none 0 0] 25)
  have kw0 := kw.alloc (.cells #[.slice none 0 0] 25)
  have kh0 := kh.alloc (.cells #[.slice none 0 0] 25)
  have kr0 := kr.alloc (.cells #[.slice none 0 0] 25)
  have hbr := kr.lt
  have hbW0 : Below W.heap.size W (w1.alloc (.cells #[.slice none 0 0] 25)) := balloc hbW _
  have hs0 : (w1.alloc (.cells #[.slice none 0 0] 25)).heap.size = w1.heap.size + 1 := by simp
  obtain ⟨W0, hW0⟩ : ∃ W0, w1.alloc (.cells #[.slice none 0 0] 25) = W0 := ⟨_, rfl⟩
  rw [hW0] at kl0 km0 kw0 kh0 kr0 hbW0 hs0 ⊢
  clear hW0 km1 kw kh kr
  have hs1 : W0.heap.size ≤ w1.heap.size + 1 := by omega
  have hs2 : w1.heap.size + 1 ≤ W0.heap.size := by omega
  clear hs0
  have hbd := canon_bd ⟨a, b, c, d⟩
  have hw2 : W.heap.size + 2 ≤ w1.heap.size := by have := hb1.size; simp at this; omega
  have hwz := hbW.size
  have hI : OwnFrom W0.heap.size (fun (pre : List Rc) X => ((Bk X (W.heap.size + 1) 3 #[.int .i64 most] ∧ ∃ v, Bk X w1.heap.size 25 #[v] ∧ OwnL encR 23 4 X W0.heap.size v pre) ∧ Below W.heap.size W X) ∧ pre.length ≤ most.toNat) := by
    rintro s X Y row ⟨⟨⟨hm, v, hv, ho⟩, hb⟩, hl⟩ hg hr
    have hr2 : ∀ r, row = some r → ∃ o : Obj, X.heap[r]? = some o ∧ o.isCells = false := fun r e => (hr r e).2
    exact ⟨⟨⟨hm.own hg hr2, v, hv.own hg hr2, ownL_own ho hg hr2⟩, hb.grown hg hb.size (fun k e => by have := (hr k e).1; omega)⟩, hl⟩
  have hIx : OwnFrom W0.heap.size (fun (pre : List Rc) X => ((∃ v, Bk X w1.heap.size 25 #[v] ∧ OwnL encR 23 4 X W0.heap.size v (pre.take most.toNat)) ∧ Below W.heap.size W X) ∧ most.toNat ≤ pre.length) := by
    rintro s X Y row ⟨⟨⟨v, hv, ho⟩, hb⟩, hl⟩ hg hr
    have hr2 : ∀ r, row = some r → ∃ o : Obj, X.heap[r]? = some o ∧ o.isCells = false := fun r e => (hr r e).2
    exact ⟨⟨⟨v, hv.own hg hr2, ownL_own ho hg hr2⟩, hb.grown hg hb.size (fun k e => by have := (hr k e).1; omega)⟩, hl⟩
  refine loop_own hro h1 (gf := 51) (lb := #[.pointer (some ⟨Bw, 0, none⟩), .pointer (some ⟨Bh, 0, none⟩), .pointer (some ⟨Br, 0, none⟩)]) rfl (hfn _) (enters_of Try.func51 (by kernel_rfl) rfl) (m := n - 1 - 5) rcv rfl (tilesL ⟨a, b, c, d⟩ w h) 0 (Kt (W0.heap.size + 2) Br)
    (fun X Y Z h k => h.trans k) (fun X l o o' hl ho hc => (Kt.refl _ _ _).put o' hl ho hc) _ _ hI hIx ?seq ⟨⟨⟨km0, _, kl0, OwnL.nil _ _⟩, hbW0⟩, Nat.zero_le _⟩ ?round ?done ?stop
  case seq =>
    intro l J Jx X hb hs hJ hJx hY h0
    exact tiles1_in F (n - 1) (hfn _) (hfn _) (hfn _) hro (by omega) l Bw Bh Br (canonR ⟨a, b, c, d⟩) (by omega) (by omega) (by omega) (by omega) w h hw.2 hh.2 J Jx X hJ hJx (fun pre x Z hj hl => by rw [hs]; exact hY pre x Z hj hl) (kw0.below hb) (kh0.below hb) (kr0.below hb) h0
  case round =>
    rintro l pre x X hl hl2 ⟨r, hr⟩ hi hlen
    gi_wp2
    refine ⟨(KeepsOthers.alloc _ _).from _, fun o' => ?_⟩
    have hr1 : (X.alloc (.cells #[.int .i64 x.x0, .int .i64 x.y0, .int .i64 x.x1, .int .i64 x.y1] 23)).heap[l]? = some (.loop r) := (Below.heap_alloc X _ l (Array.getElem?_eq_some_iff.1 hr).1).trans hr
    have hi2 := hI.putObj (.loop o') (hI.alloc (.cells #[.int .i64 x.x0, .int .i64 x.y0, .int .i64 x.x1, .int .i64 x.y1] 23) hi) hl hr1 rfl
    have kt : Bk ((X.alloc (.cells #[.int .i64 x.x0, .int .i64 x.y0, .int .i64 x.x1, .int .i64 x.y1] 23)).putObj l (.loop o')) X.heap.size 23 #[.int .i64 x.x0, .int .i64 x.y0, .int .i64 x.x1, .int .i64 x.y1] :=
      (Bk.new _ _ _ rfl).own (grownBy_putObj' _ _ _) (fun r' e => by cases e; exact ⟨_, hr1, rfl⟩)
    have hkt := ((Kt.refl (W0.heap.size + 2) Br X).alloc (.cells #[.int .i64 x.x0, .int .i64 x.y0, .int .i64 x.x1, .int .i64 x.y1] 23)).put (.loop o') hl2 hr1 rfl
    clear hi hr hr1
    obtain ⟨Z, hZ⟩ : ∃ Z, (X.alloc (.cells #[.int .i64 x.x0, .int .i64 x.y0, .int .i64 x.x1, .int .i64 x.y1] 23)).putObj l (.loop o') = Z := ⟨_, rfl⟩
    rw [hZ] at hi2 kt hkt ⊢
    clear hZ
    obtain ⟨⟨⟨km, v, kl, ho⟩, hb⟩, hpl⟩ := hi2
    obtain ⟨A, cap, rfl, hrd, hcap⟩ := ho.form encR_len
    obtain ⟨m1, m2, m3, m4, m5⟩ := km.rules
    obtain ⟨l1, l2, l3, l4, l5⟩ := kl.rules
    obtain ⟨t1, t2, t3, t4, t5⟩ := kt.rules
    have hbz := hb.size
    have hlt := tilesL_len ⟨a, b, c, d⟩ w h
    obtain ⟨i0, ei, hz0, hz1, hz2⟩ := info_parts Try.infoRect
    by_cases hge : most ≤ (pre.length : Int)
    · gi_wp2
      refine ⟨KeepsFrom.refl _ _, hkt, .inr ⟨rfl, ⟨⟨_, kl, ?_⟩, hb⟩, by simp; omega⟩⟩
      rw [List.take_append_of_le_length (by omega), List.take_of_length_le (by omega)]
      exact ho
    · have hws : W0.heap.size ≤ Z.heap.size := by omega
      gi_wp2_with (gi_at_builtin; refine wpListIn_append_own _ rfl _ _ 25 rfl W0.heap.size 23 i0 _ 4 32 Try.underlying25 ei hz0 hz1 hz2 rfl (by decide) _ _ _ rfl (ho.alloc _) ⟨Z.heap.size, 0, none⟩ 1 1 (encR x) rfl rfl (fun j u hu => World.news_of_block (heap_alloc_new Z _) j u hu) (encR_one x) (by unfold maxLen; omega) (by omega) (by simp; omega) ?_; intro v' w2 hown' hgrow _; obtain ⟨g', cap', rfl⟩ := ownsRow_succ hown'; have kl2 := (kl.alloc (.cells #[.int .i64 x.x0, .int .i64 x.y0, .int .i64 x.x1, .int .i64 x.y1] 23)).grown hgrow ((ho.alloc (.cells #[.int .i64 x.x0, .int .i64 x.y0, .int .i64 x.x1, .int .i64 x.y1] 23)).block_ne (by omega)); obtain ⟨q1, q2, q3, q4, q5⟩ := kl2.rules)
      have hn := (ho.alloc (.cells #[.int .i64 x.x0, .int .i64 x.y0, .int .i64 x.x1, .int .i64 x.y1] 23)).block_ne (g := W.heap.size + 1) (by omega)
      have hkz : Kt W0.heap.size Br Z (w2.setCell ⟨w1.heap.size, 0, none⟩ (.slice (some ⟨g', 0, none⟩) (pre.length + 1) cap')) := (((Kt.refl _ _ Z).alloc _).grown (ho.alloc _) hgrow (by omega)).set kl2 (by decide) (by decide) (by omega) 0 _
      have hown2 : OwnL encR 23 4 w2 W0.heap.size (.slice (some ⟨g', 0, none⟩) (pre.length + 1) cap') (pre ++ [x]) := by
        unfold OwnL
        rw [List.flatMap_append, List.length_append]
        simpa using hown'
      refine ⟨hkz.keeps (Nat.le_refl _), hkt.trans ⟨hkz.size, hkz.bk, fun k o hk => hkz.other k o (by omega)⟩, .inl ⟨rfl, ⟨⟨?_, .slice (some ⟨g', 0, none⟩) (pre.length + 1) cap', ?_, ?_⟩, ?_⟩, by first | omega | (simp; omega)⟩⟩
      · exact ((km.alloc _).grown hgrow hn).far (by show _ ≠ w1.heap.size; omega) _
      · simpa using kl2.set 0 (.slice (some ⟨g', 0, none⟩) (pre.length + 1) cap')
      · exact World.ownsRow.kept hown2 (grownBy_setCell' w2 w1.heap.size _) (.inr (hown2.block_ne (by omega)).symm)
      · exact (below_grown (ho.alloc _) hgrow (balloc hb _) (by omega)).setCell (p := ⟨w1.heap.size, 0, none⟩) (by show _ ≤ w1.heap.size; omega) _
  case done =>
    rintro Y ⟨⟨⟨hm, v, hv, ho⟩, hb⟩, hl⟩ hK
    have hc := bk_cell hv
    gi_wp2
    refine ⟨by simp, .inl ⟨_, _, rfl, run_takeDeferred hK, ?_⟩⟩
    refine ⟨_, results_tmp2 rfl _ _ _, v, rfl, ?_, ?_⟩
    · rw [List.take_of_length_le hl]
      exact (ownL_put ho _ hK rfl).mono (by omega)
    · exact hb.grown (grownBy_putObj' _ _ _) hb.size (fun k e => by cases e; omega)
  case stop =>
    rintro pre Y hpre ⟨⟨⟨v, hv, ho⟩, hb⟩, hl⟩ hK
    have hc := bk_cell hv
    gi_wp2
    refine ⟨by simp, .inl ⟨_, _, rfl, run_takeDeferred hK, ?_⟩⟩
    refine ⟨_, results_tmp2 rfl _ _ _, v, rfl, ?_, ?_⟩
    · obtain ⟨t, ht⟩ := hpre
      rw [← ht, List.take_append_of_le_length hl]
      exact (ownL_put ho _ hK rfl).mono (by omega)
    · exact hb.grown (grownBy_putObj' _ _ _) hb.size (fun k e => by cases e; omega)
end Go.Proofs.Ytiaeaegocfmjhaa
