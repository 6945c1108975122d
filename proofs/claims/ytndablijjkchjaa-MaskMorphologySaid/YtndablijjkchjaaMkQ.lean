/-
  Laws on products, unions and crops of masks: plain Lean.
-/
import Derived.Test.YtndablijjkchjaaMk5b
import Derived.Test.YtndablijjkchjaaMk6b
import Derived.Test.YtndablijjkchjaaMk7
import Derived.Test.YtndablijjkchjaaMk9
namespace Go.Proofs.Ytndablijjkchjaa
open Go.RowKit
set_option linter.unusedSimpArgs false
set_option linter.unusedVariables false

theorem mn8_comm (a b : Int) : mn8 a b = mn8 b a := by unfold mn8; rw [Int.mul_comm]
theorem uv_comm (a b : Int) : uvP a b = uvP b a := by unfold uvP; rw [mn8_comm, Int.add_comm]
theorem contains_iffc (r : Rc) (x y : Int) : containsB r x y = true ↔ (canonR r).x0 ≤ x ∧ x < (canonR r).x1 ∧ (canonR r).y0 ≤ y ∧ y < (canonR r).y1 := by
  rw [contains_canon]; simp [and_assoc]
theorem contains_inter (a b : Rc) (x y : Int) : containsB (interR a b) x y = (containsB a x y && containsB b x y) := by
  rw [Bool.eq_iff_iff, Bool.and_eq_true, contains_iffc, contains_iffc, contains_iffc, inter_cn]
  have ha := canon_bd a
  have hb := canon_bd b
  unfold interR
  generalize canonR a = p at *
  generalize canonR b = q at *
  cases he : emptyB ⟨max p.x0 q.x0, max p.y0 q.y0, min p.x1 q.x1, min p.y1 q.y1⟩ with
  | false => rw [canon_of_full he]; dsimp only; omega
  | true =>
    rw [canon_of_empty he]
    have h := mt (emptyB_iff ⟨max p.x0 q.x0, max p.y0 q.y0, min p.x1 q.x1, min p.y1 q.y1⟩).2 (by rw [he]; simp)
    dsimp only at h ⊢
    omega
/-- A canonical rectangle is known by its points. -/
theorem rc_ext {p q : Rc} (hp : canonR p = p) (hq : canonR q = q) (h : ∀ x y, containsB p x y = containsB q x y) : p = q := by
  have h' : ∀ x y, (p.x0 ≤ x ∧ x < p.x1 ∧ p.y0 ≤ y ∧ y < p.y1) ↔ (q.x0 ≤ x ∧ x < q.x1 ∧ q.y0 ≤ y ∧ y < q.y1) := fun x y => by
    rw [← contains_iff hp, ← contains_iff hq, h]
  cases ep : emptyB p with
  | true =>
    have hz : p = zR := cn_empty hp ep
    cases eq : emptyB q with
    | true => rw [hz, cn_empty hq eq]
    | false =>
      have := (emptyB_iff q).1 eq
      have h1 := (h' q.x0 q.y0).2 ⟨by omega, by omega, by omega, by omega⟩
      rw [hz] at h1; simp [zR] at h1; omega
  | false =>
    have hp' := (emptyB_iff p).1 ep
    have h1 := (h' p.x0 p.y0).1 ⟨by omega, by omega, by omega, by omega⟩
    have h2 := (h' (p.x1 - 1) (p.y1 - 1)).1 ⟨by omega, by omega, by omega, by omega⟩
    have h3 := (h' q.x0 q.y0).2 ⟨by omega, by omega, by omega, by omega⟩
    have h4 := (h' (q.x1 - 1) (q.y1 - 1)).2 ⟨by omega, by omega, by omega, by omega⟩
    exact Rc.eq (by omega) (by omega) (by omega) (by omega)
theorem area_le {p q : Rc} (h : emptyB p = false → emptyB q = false ∧ q.x0 ≤ p.x0 ∧ p.x1 ≤ q.x1 ∧ q.y0 ≤ p.y0 ∧ p.y1 ≤ q.y1) : areaR p ≤ areaR q := by
  cases ep : emptyB p with
  | true =>
    have h0 : areaR p = 0 := by unfold areaR; rw [canon_of_empty ep]; rfl
    have := (area_bd q).1; omega
  | false =>
    obtain ⟨eq, h1, h2, h3, h4⟩ := h ep
    have hp' := (emptyB_iff p).1 ep
    unfold areaR
    rw [canon_of_full ep, canon_of_full eq]
    exact Int.mul_le_mul (by omega) (by omega) (by omega) (by omega)
theorem area_inter (a b : Rc) : areaR (interR a b) ≤ areaR a := area_le fun h => by
  obtain ⟨h1, h2, h3⟩ := inter_full h
  rw [h3]; dsimp only
  exact ⟨h1, by omega, by omega, by omega, by omega⟩
/-- The value of a part of a list of values. -/
theorem atL_sub {r q : Rc} {l : List Int} (x y : Int) : atL 0 (interR r q) (pixL (atL 0 r l) (interR r q)) x y = if containsB q x y then atL 0 r l x y else 0 := by
  rw [atL_pix, contains_inter]
  cases h1 : containsB r x y <;> cases h2 : containsB q x y <;> simp [atL_out, h1]

-- products and unions of two masks
theorem mul2_all (a b : Mk) : [a, b].all vMk = unB a b := by simp [unB]
theorem unB_comm (a b : Mk) : unB a b = unB b a := by unfold unB; rw [Bool.and_comm]
theorem mulR_two (a b : Mk) : mulR [a, b] = if unB a b then interR a.r b.r else zR := by unfold mulR; rw [mul2_all]; rfl
theorem mulL_two (a b : Mk) : mulL [a, b] = if unB a b then pixL (fun x y => mn8 (atL 0 a.r a.l x y) (atL 0 b.r b.l x y)) (interR a.r b.r) else [] := by unfold mulL; rw [mul2_all]; rfl
theorem mulE_two (a b : Mk) : mulE [a, b] = if unB a b then 0 else 14 := by unfold mulE; rw [mul2_all]
theorem mulR_comm (a b : Mk) : mulR [a, b] = mulR [b, a] := by rw [mulR_two, mulR_two, unB_comm, inter_comm]
theorem mulL_comm (a b : Mk) : mulL [a, b] = mulL [b, a] := by
  rw [mulL_two, mulL_two, unB_comm, inter_comm]
  congr 1
  exact pix_ext fun x y _ _ _ _ => mn8_comm _ _
theorem mulE_comm (a b : Mk) : mulE [a, b] = mulE [b, a] := by rw [mulE_two, mulE_two, unB_comm]
theorem unMR_comm (a b : Mk) : unMR a b = unMR b a := by unfold unMR; rw [unB_comm, union_comm]
theorem unML_comm (a b : Mk) : unML a b = unML b a := by
  unfold unML
  rw [unB_comm, union_comm]
  congr 1
  exact pix_ext fun x y _ _ _ _ => uv_comm _ _
theorem unME_comm (a b : Mk) : unME a b = unME b a := by unfold unME; rw [unB_comm, union_comm]
/-- A list of values of a canonical rectangle is a mask. -/
theorem pix_valid {r : Rc} (g : Int → Int → Int) (hc : canonR r = r) (ha : areaR r ≤ 65536) : mkValid r (pixL g r) = true :=
  mk_of hc (by have := pix_len g r; rw [hc] at this; exact this) ha
theorem mul2_valid {a b : Mk} (h : unB a b = true) : mkValid (mulR [a, b]) (mulL [a, b]) = true := by
  rw [mulR_two, mulL_two, h, if_pos rfl, if_pos rfl]
  have h1 : vMk a = true := by unfold unB at h; simp at h; exact h.1
  exact pix_valid _ (inter_cn _ _) (Int.le_trans (area_inter _ _) (mk_cn h1).2.2)
theorem un_form {a b : Mk} (h : unB a b = true) (ha : areaR (unionR a.r b.r) ≤ 65536) : unMR a b = unionR a.r b.r ∧ unML a b = pixL (unG a b) (unionR a.r b.r) ∧ unME a b = 0 := by
  unfold unMR unML unME
  rw [h, decide_eq_true ha]
  exact ⟨rfl, rfl, rfl⟩
theorem un_valid {a b : Mk} (h : unB a b = true) (ha : areaR (unionR a.r b.r) ≤ 65536) : mkValid (unMR a b) (unML a b) = true := by
  obtain ⟨h1, h2, _⟩ := un_form h ha
  rw [h1, h2]
  exact pix_valid _ union_cn ha
/-- The value that At reads. -/
def atV (r : Rc) (l : List Int) (x y : Int) : Int := if mkValid r l then atL 0 r l x y else 0
theorem mn8_le_min {p q : Int} (h0 : 0 ≤ p) (h1 : p ≤ 255) (h2 : 0 ≤ q) (h3 : q ≤ 255) : mn8 p q ≤ min p q := by
  have h4 := (mn8_bd h0 h1 h2 h3).2.2
  have h5 := (mn8_bd h2 h3 h0 h1).2.2
  rw [mn8_comm] at h5
  omega
theorem uv_ge_max {p q : Int} (h0 : 0 ≤ p) (h1 : p ≤ 255) (h2 : 0 ≤ q) (h3 : q ≤ 255) : max p q ≤ uvP p q := by
  have := mn8_le_min h0 h1 h2 h3
  unfold uvP; omega
theorem order_mul {a b : Mk} (h : unB a b = true) (ba : bytesB a.l) (bb : bytesB b.l) (x y : Int) : atV (mulR [a, b]) (mulL [a, b]) x y ≤ min (atV a.r a.l x y) (atV b.r b.l x y) := by
  have hv : mkValid a.r a.l = true ∧ mkValid b.r b.l = true := by have := h; unfold unB vMk at this; simpa using this
  unfold atV
  rw [mul2_valid h, hv.1, hv.2, if_pos rfl, if_pos rfl, if_pos rfl, mulR_two, mulL_two, h, if_pos rfl, if_pos rfl, atL_pix]
  have h1 := atL_byte (r := a.r) ba x y
  have h2 := atL_byte (r := b.r) bb x y
  split
  · exact mn8_le_min h1.1 h1.2 h2.1 h2.2
  · omega
theorem order_un {a b : Mk} (h : unB a b = true) (ha : areaR (unionR a.r b.r) ≤ 65536) (ba : bytesB a.l) (bb : bytesB b.l) {x y : Int} (hc : containsB (unionR a.r b.r) x y = true) :
    max (atV a.r a.l x y) (atV b.r b.l x y) ≤ atV (unMR a b) (unML a b) x y := by
  have hv : mkValid a.r a.l = true ∧ mkValid b.r b.l = true := by have := h; unfold unB vMk at this; simpa using this
  obtain ⟨e1, e2, _⟩ := un_form h ha
  have e3 := un_valid h ha
  unfold atV
  rw [e3, hv.1, hv.2, if_pos rfl, if_pos rfl, if_pos rfl, e1, e2, atL_pix, if_pos hc]
  have h1 := atL_byte (r := a.r) ba x y
  have h2 := atL_byte (r := b.r) bb x y
  exact uv_ge_max h1.1 h1.2 h2.1 h2.2
theorem inv_inv {l : List Int} : (l.map invF).map invF = l := by
  rw [List.map_map]
  have : (invF ∘ invF) = id := by funext x; simp [invF, Function.comp]; omega
  rw [this, List.map_id]
theorem inv_bytes {l : List Int} (h : bytesB l) : bytesB (l.map invF) := fun x hx => by
  obtain ⟨y, hy, rfl⟩ := List.mem_map.1 hx
  have := h y hy; unfold invF; omega
theorem inv_valid {b : Mk} (h : vMk b = true) : mkValid b.r (b.l.map invF) = true := by
  obtain ⟨h0, h1, h2⟩ := mk_cn h
  exact mk_of h0 (by rw [List.length_map]; exact h1) h2

-- crops
theorem cut_rect (a b r : Rc) : interR (interR a b) r = interR (interR a r) (interR b r) := rc_ext (inter_cn _ _) (inter_cn _ _) fun x y => by
  simp only [contains_inter]
  cases containsB a x y <;> cases containsB b x y <;> cases containsB r x y <;> rfl
theorem cut_valid {b : Mk} (h : vMk b = true) (r : Rc) : mkValid (interR b.r r) (pixL (atL 0 b.r b.l) (interR b.r r)) = true :=
  pix_valid _ (inter_cn _ _) (Int.le_trans (area_inter _ _) (mk_cn h).2.2)
theorem union_le {a b c d : Rc} (h1 : emptyB c = false → emptyB a = false ∧ a.x0 ≤ c.x0 ∧ c.x1 ≤ a.x1 ∧ a.y0 ≤ c.y0 ∧ c.y1 ≤ a.y1) (h2 : emptyB d = false → emptyB b = false ∧ b.x0 ≤ d.x0 ∧ d.x1 ≤ b.x1 ∧ b.y0 ≤ d.y0 ∧ d.y1 ≤ b.y1) : areaR (unionR c d) ≤ areaR (unionR a b) := area_le fun h => by
  have key : ∀ {p q : Rc}, emptyB p = false → emptyB (unionR p q) = false ∧ (unionR p q).x0 ≤ p.x0 ∧ p.x1 ≤ (unionR p q).x1 ∧ (unionR p q).y0 ≤ p.y0 ∧ p.y1 ≤ (unionR p q).y1 := fun {p q} hp => by
    cases hq : emptyB q with
    | true =>
      have : unionR p q = p := by unfold unionR; rw [hp, hq]; rfl
      rw [this]; exact ⟨hp, by omega, by omega, by omega, by omega⟩
    | false =>
      obtain ⟨e1, e2⟩ := union_full hp hq
      refine ⟨e2, ?_⟩
      rw [e1]; dsimp only; omega
  cases hc : emptyB c with
  | true =>
    cases hd : emptyB d with
    | true =>
      have : unionR c d = zR := by unfold unionR; rw [hc, if_pos rfl, canon_of_empty hd]; rfl
      rw [this] at h; exact absurd h (by decide)
    | false =>
      have e : unionR c d = d := by unfold unionR; rw [hc, if_pos rfl, canon_of_full hd]
      obtain ⟨k1, k2⟩ := h2 hd
      have k := key (q := a) k1
      rw [union_comm b a] at k
      rw [e]; exact ⟨k.1, by omega, by omega, by omega, by omega⟩
  | false =>
    obtain ⟨k1, k2⟩ := h1 hc
    have ka := key (q := b) k1
    cases hd : emptyB d with
    | true =>
      have e : unionR c d = c := by unfold unionR; rw [hc, hd]; rfl
      rw [e]; exact ⟨ka.1, by omega, by omega, by omega, by omega⟩
    | false =>
      obtain ⟨k3, k4⟩ := h2 hd
      have kb := key (q := a) k3
      rw [union_comm b a] at kb
      obtain ⟨e1, _⟩ := union_full hc hd
      rw [e1]; dsimp only
      exact ⟨ka.1, by omega, by omega, by omega, by omega⟩
theorem inter_in (a r : Rc) : emptyB (interR a r) = false → emptyB a = false ∧ a.x0 ≤ (interR a r).x0 ∧ (interR a r).x1 ≤ a.x1 ∧ a.y0 ≤ (interR a r).y0 ∧ (interR a r).y1 ≤ a.y1 := fun h => by
  obtain ⟨h1, h2, h3⟩ := inter_full h
  rw [h3]; dsimp only
  exact ⟨h1, by omega, by omega, by omega, by omega⟩
/-- The crop of a valid mask, as a mask in memory. -/
def cutM (b : Mk) (r : Rc) (A : Option Addr) (n c : Nat) : Mk := ⟨interR b.r r, A, n, c, pixL (atL 0 b.r b.l) (interR b.r r)⟩
theorem cut_form {b : Mk} (h : vMk b = true) (r : Rc) : crMR b r = interR b.r r ∧ crML b r = pixL (atL 0 b.r b.l) (interR b.r r) ∧ crME b = 0 := by
  unfold crMR crML crME; rw [h]; exact ⟨rfl, rfl, rfl⟩
theorem cut_mul {a b : Mk} (h : unB a b = true) (r : Rc) (A A1 A2 : Option Addr) (n c n1 c1 n2 c2 : Nat) :
    crMR ⟨mulR [a, b], A, n, c, mulL [a, b]⟩ r = mulR [cutM a r A1 n1 c1, cutM b r A2 n2 c2] ∧ crML ⟨mulR [a, b], A, n, c, mulL [a, b]⟩ r = mulL [cutM a r A1 n1 c1, cutM b r A2 n2 c2] := by
  have hv : vMk a = true ∧ vMk b = true := by have := h; unfold unB at this; simpa using this
  have h2 : unB (cutM a r A1 n1 c1) (cutM b r A2 n2 c2) = true := by
    unfold unB
    rw [show vMk (cutM a r A1 n1 c1) = true from cut_valid hv.1 r, show vMk (cutM b r A2 n2 c2) = true from cut_valid hv.2 r]; rfl
  obtain ⟨e1, e2, _⟩ := cut_form (b := ⟨mulR [a, b], A, n, c, mulL [a, b]⟩) (mul2_valid h) r
  rw [e1, e2, mulR_two (cutM _ _ _ _ _), mulL_two (cutM _ _ _ _ _), h2, if_pos rfl, if_pos rfl]
  dsimp only
  rw [mulR_two, mulL_two, h, if_pos rfl, if_pos rfl]
  unfold cutM
  dsimp only
  refine ⟨cut_rect _ _ _, ?_⟩
  rw [cut_rect]
  refine pix_ext fun x y h0 h1 h2 h3 => ?_
  have hc := (contains_iff (inter_cn (interR a.r r) (interR b.r r)) x y).2 ⟨h0, h1, h2, h3⟩
  rw [contains_inter, contains_inter, contains_inter] at hc
  simp only [Bool.and_eq_true] at hc
  rw [atL_pix, contains_inter, hc.1.1, hc.2.1, atL_sub, atL_sub, hc.1.2]
  rfl
theorem cut_un {a b : Mk} (h : unB a b = true) (ha : areaR (unionR a.r b.r) ≤ 65536) (r : Rc) (A1 A2 : Option Addr) (n1 c1 n2 c2 : Nat) :
    unME (cutM a r A1 n1 c1) (cutM b r A2 n2 c2) = 0 ∧ ∀ x y, containsB (unionR a.r b.r) x y = true → containsB r x y = true →
      atV (unMR a b) (unML a b) x y = atV (unMR (cutM a r A1 n1 c1) (cutM b r A2 n2 c2)) (unML (cutM a r A1 n1 c1) (cutM b r A2 n2 c2)) x y := by
  have hv : vMk a = true ∧ vMk b = true := by have := h; unfold unB at this; simpa using this
  have h2 : unB (cutM a r A1 n1 c1) (cutM b r A2 n2 c2) = true := by
    unfold unB
    rw [show vMk (cutM a r A1 n1 c1) = true from cut_valid hv.1 r, show vMk (cutM b r A2 n2 c2) = true from cut_valid hv.2 r]; rfl
  have ha2 : areaR (unionR (cutM a r A1 n1 c1).r (cutM b r A2 n2 c2).r) ≤ 65536 := Int.le_trans (union_le (inter_in a.r r) (inter_in b.r r)) ha
  obtain ⟨f1, f2, f3⟩ := un_form h2 ha2
  obtain ⟨e1, e2, e3⟩ := un_form h ha
  refine ⟨f3, fun x y hc hr => ?_⟩
  unfold atV
  rw [un_valid h ha, un_valid h2 ha2, if_pos rfl, if_pos rfl, e1, e2, f1, f2, atL_pix, atL_pix, if_pos hc]
  have g1 : atL 0 (cutM a r A1 n1 c1).r (cutM a r A1 n1 c1).l x y = atL 0 a.r a.l x y := by
    show atL 0 (interR a.r r) (pixL (atL 0 a.r a.l) (interR a.r r)) x y = _
    rw [atL_sub, if_pos hr]
  have g2 : atL 0 (cutM b r A2 n2 c2).r (cutM b r A2 n2 c2).l x y = atL 0 b.r b.l x y := by
    show atL 0 (interR b.r r) (pixL (atL 0 b.r b.l) (interR b.r r)) x y = _
    rw [atL_sub, if_pos hr]
  split
  · unfold unG; rw [g1, g2]
  · next hn =>
    have o1 : containsB (cutM a r A1 n1 c1).r x y = false := by
      cases hh : containsB (cutM a r A1 n1 c1).r x y with
      | false => rfl
      | true => exact absurd (contains_union_l hh) hn
    have o2 : containsB (cutM b r A2 n2 c2).r x y = false := by
      cases hh : containsB (cutM b r A2 n2 c2).r x y with
      | false => rfl
      | true => exact absurd (by rw [union_comm]; exact contains_union_l hh) hn
    unfold unG
    rw [← g1, ← g2, atL_out o1, atL_out o2]
    decide
end Go.Proofs.Ytndablijjkchjaa
