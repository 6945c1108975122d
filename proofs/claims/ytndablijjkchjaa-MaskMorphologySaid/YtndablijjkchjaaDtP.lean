/-
  The distance transform in plain Lean: two passes give the distance to the nearest zero.
-/
import Derived.Test.YtndablijjkchjaaMkP
namespace Go.Proofs.Ytndablijjkchjaa
set_option linter.unusedSimpArgs false
set_option linter.unusedVariables false

def inG (wd ht : Nat) (x y : Int) : Prop := 0 ≤ x ∧ x < wd ∧ 0 ≤ y ∧ y < ht
instance (wd ht : Nat) (x y : Int) : Decidable (inG wd ht x y) := by unfold inG; exact inferInstance
def gix (wd : Nat) (x y : Int) : Nat := (y * wd + x).toNat
def gat (wd : Nat) (L : List Int) (x y : Int) : Int := L.getD (gix wd x y) 0
theorem gix_cast {wd ht : Nat} {x y : Int} (h : inG wd ht x y) : ((gix wd x y : Nat) : Int) = y * wd + x := by
  obtain ⟨h0, h1, h2, h3⟩ := h
  have := Int.mul_nonneg h2 (Int.natCast_nonneg wd)
  unfold gix; omega
theorem gix_lt {wd ht : Nat} {x y : Int} (h : inG wd ht x y) : gix wd x y < wd * ht := by
  have hc := gix_cast h
  obtain ⟨h0, h1, h2, h3⟩ := h
  have h4 : (y + 1) * (wd : Int) ≤ ht * wd := Int.mul_le_mul_of_nonneg_right (by omega) (Int.natCast_nonneg wd)
  rw [Int.add_mul, Int.one_mul] at h4
  have h5 : ((wd * ht : Nat) : Int) = ht * wd := by rw [Int.natCast_mul, Int.mul_comm]
  omega
theorem gix_nat {wd x y : Nat} (h : True) : gix wd (x : Int) (y : Int) = y * wd + x := by
  unfold gix; rw [← Int.natCast_mul, ← Int.natCast_add, Int.toNat_natCast]
theorem gix_inj {wd ht : Nat} {x y u v : Int} (h : inG wd ht x y) (k : inG wd ht u v) (e : gix wd x y = gix wd u v) : x = u ∧ y = v := by
  obtain ⟨h0, h1, h2, h3⟩ := h
  obtain ⟨k0, k1, k2, k3⟩ := k
  obtain ⟨a, rfl⟩ : ∃ a : Nat, x = a := ⟨x.toNat, by omega⟩
  obtain ⟨b, rfl⟩ : ∃ a : Nat, y = a := ⟨y.toNat, by omega⟩
  obtain ⟨c, rfl⟩ : ∃ a : Nat, u = a := ⟨u.toNat, by omega⟩
  obtain ⟨d, rfl⟩ : ∃ a : Nat, v = a := ⟨v.toNat, by omega⟩
  rw [gix_nat trivial, gix_nat trivial] at e
  have ha : a < wd := by omega
  have hc : c < wd := by omega
  have e1 : (b * wd + a) % wd = (d * wd + c) % wd := by rw [e]
  have e2 : (b * wd + a) / wd = (d * wd + c) / wd := by rw [e]
  rw [Nat.mul_comm b, Nat.mul_comm d, Nat.mul_add_mod, Nat.mul_add_mod, Nat.mod_eq_of_lt ha, Nat.mod_eq_of_lt hc] at e1
  have hp : 0 < wd := by omega
  rw [Nat.mul_comm b, Nat.mul_comm d, Nat.mul_add_div hp, Nat.mul_add_div hp, Nat.div_eq_of_lt ha, Nat.div_eq_of_lt hc] at e2
  omega
theorem gat_set {wd ht : Nat} {L : List Int} (hl : L.length = wd * ht) {x y u v : Int} (h : inG wd ht x y) (k : inG wd ht u v) (a : Int) :
    gat wd (L.set (gix wd x y) a) u v = if x = u ∧ y = v then a else gat wd L u v := by
  unfold gat
  rw [List.getD_eq_getElem?_getD, List.getD_eq_getElem?_getD, List.getElem?_set]
  by_cases e : gix wd x y = gix wd u v
  · rw [if_pos e, if_pos (by rw [hl]; exact gix_lt h), if_pos (gix_inj h k e)]; rfl
  · rw [if_neg e, if_neg (fun hh => e (by rw [hh.1, hh.2]))]
/-- The neighbour's value at (x + dx, y + dy) lowers that at (x, y). -/
def relP (wd ht : Nat) (L : List Int) (x y dx dy : Int) : List Int :=
  if inG wd ht (x + dx) (y + dy) ∧ gat wd L (x + dx) (y + dy) < 255 ∧ gat wd L (x + dx) (y + dy) + 1 < gat wd L x y then L.set (gix wd x y) (gat wd L (x + dx) (y + dy) + 1) else L
structure OkD (wd ht : Nat) (L : List Int) : Prop where
  len : L.length = wd * ht
  byte : bytesB L
theorem gat_byte {wd : Nat} {L : List Int} (h : bytesB L) (x y : Int) : 0 ≤ gat wd L x y ∧ gat wd L x y ≤ 255 := by
  unfold gat
  rw [List.getD_eq_getElem?_getD]
  cases he : L[gix wd x y]? with
  | none => exact ⟨Int.le_refl _, by decide⟩
  | some v => exact h v (List.mem_of_getElem? he)
theorem rel_ok {wd ht : Nat} {L : List Int} (h : OkD wd ht L) (x y dx dy : Int) : OkD wd ht (relP wd ht L x y dx dy) := by
  unfold relP
  split
  · next hc =>
    refine ⟨by rw [List.length_set]; exact h.len, fun v hv => ?_⟩
    rcases List.mem_or_eq_of_mem_set hv with hv | rfl
    · exact h.byte v hv
    · have := gat_byte (wd := wd) h.byte (x + dx) (y + dy); omega
  · exact h
theorem rel_at {wd ht : Nat} {L : List Int} (h : OkD wd ht L) {x y dx dy u v : Int} (hx : inG wd ht x y) (hu : inG wd ht u v) (hne : ¬ (x = u ∧ y = v)) : gat wd (relP wd ht L x y dx dy) u v = gat wd L u v := by
  unfold relP
  split
  · rw [gat_set h.len hx hu, if_neg hne]
  · rfl
theorem rel_le {wd ht : Nat} {L : List Int} (h : OkD wd ht L) {x y dx dy u v : Int} (hx : inG wd ht x y) (hu : inG wd ht u v) : gat wd (relP wd ht L x y dx dy) u v ≤ gat wd L u v := by
  unfold relP
  split
  · next hc =>
    rw [gat_set h.len hx hu]
    split
    · next e => rw [← e.1, ← e.2]; omega
    · exact Int.le_refl _
  · exact Int.le_refl _
theorem rel_nb {wd ht : Nat} {L : List Int} (h : OkD wd ht L) {x y dx dy : Int} (hx : inG wd ht x y) (hn : inG wd ht (x + dx) (y + dy)) : gat wd (relP wd ht L x y dx dy) x y ≤ gat wd L (x + dx) (y + dy) + 1 := by
  have h1 := gat_byte (wd := wd) h.byte (x + dx) (y + dy)
  have h2 := gat_byte (wd := wd) h.byte x y
  unfold relP
  split
  · rw [gat_set h.len hx hx, if_pos ⟨rfl, rfl⟩]; exact Int.le_refl _
  · next hc => have : ¬ (gat wd L (x + dx) (y + dy) < 255 ∧ gat wd L (x + dx) (y + dy) + 1 < gat wd L x y) := fun h => hc ⟨hn, h⟩
               omega
theorem rel_ge {wd ht : Nat} {L : List Int} (h : OkD wd ht L) {E : Int → Int → Int} (hE : ∀ u v, inG wd ht u v → E u v ≤ gat wd L u v) {x y dx dy : Int} (hx : inG wd ht x y) (hl : inG wd ht (x + dx) (y + dy) → E x y ≤ E (x + dx) (y + dy) + 1) :
    ∀ u v, inG wd ht u v → E u v ≤ gat wd (relP wd ht L x y dx dy) u v := fun u v hu => by
  unfold relP
  split
  · next hc =>
    rw [gat_set h.len hx hu]
    split
    · next e =>
      rw [← e.1, ← e.2]
      have := hE _ _ hc.1
      have := hl hc.1
      omega
    · exact hE u v hu
  · exact hE u v hu
theorem rel_zero {wd ht : Nat} {L : List Int} (h : OkD wd ht L) {x y dx dy u v : Int} (hx : inG wd ht x y) (hu : inG wd ht u v) : gat wd (relP wd ht L x y dx dy) u v = 0 ↔ gat wd L u v = 0 := by
  unfold relP
  split
  · next hc =>
    have h1 := gat_byte (wd := wd) h.byte (x + dx) (y + dy)
    rw [gat_set h.len hx hu]
    split
    · next e => rw [← e.1, ← e.2]; omega
    · exact Iff.rfl
  · exact Iff.rfl

/-- All neighbours of a point. -/
def stepD (wd ht : Nat) (nb : List (Int × Int)) (L : List Int) (p : Int × Int) : List Int := nb.foldl (fun L d => relP wd ht L p.1 p.2 d.1 d.2) L
def passD (wd ht : Nat) (nb : List (Int × Int)) (pts : List (Int × Int)) (L : List Int) : List Int := pts.foldl (stepD wd ht nb) L
section
variable {wd ht : Nat}
theorem step_ok : ∀ (nb : List (Int × Int)) {L : List Int} (p : Int × Int), OkD wd ht L → OkD wd ht (stepD wd ht nb L p)
  | [], _, _, h => h
  | d :: nb, _, p, h => step_ok nb p (rel_ok h p.1 p.2 d.1 d.2)
theorem step_at : ∀ (nb : List (Int × Int)) {L : List Int} {p : Int × Int} {u v : Int}, OkD wd ht L → inG wd ht p.1 p.2 → inG wd ht u v → ¬ (p.1 = u ∧ p.2 = v) → gat wd (stepD wd ht nb L p) u v = gat wd L u v
  | [], _, _, _, _, _, _, _, _ => rfl
  | d :: nb, _, p, u, v, h, hp, hu, hne => (step_at nb (rel_ok h p.1 p.2 d.1 d.2) hp hu hne).trans (rel_at h hp hu hne)
theorem step_le : ∀ (nb : List (Int × Int)) {L : List Int} {p : Int × Int} {u v : Int}, OkD wd ht L → inG wd ht p.1 p.2 → inG wd ht u v → gat wd (stepD wd ht nb L p) u v ≤ gat wd L u v
  | [], _, _, _, _, _, _, _ => Int.le_refl _
  | d :: nb, _, p, u, v, h, hp, hu => Int.le_trans (step_le nb (rel_ok h p.1 p.2 d.1 d.2) hp hu) (rel_le h hp hu)
theorem step_nb : ∀ (nb : List (Int × Int)) {L : List Int} {p : Int × Int}, OkD wd ht L → inG wd ht p.1 p.2 → ∀ d ∈ nb, (p.1 + d.1, p.2 + d.2) ≠ p → inG wd ht (p.1 + d.1) (p.2 + d.2) → gat wd (stepD wd ht nb L p) p.1 p.2 ≤ gat wd L (p.1 + d.1) (p.2 + d.2) + 1
  | [], _, _, _, _, d, hd, _, _ => by simp at hd
  | c :: nb, L, p, h, hp, d, hd, hne, hn => by
    have hne' : ¬ (p.1 = p.1 + d.1 ∧ p.2 = p.2 + d.2) := fun e => hne (by rw [← e.1, ← e.2])
    rcases List.mem_cons.1 hd with e | hd
    · subst e
      exact Int.le_trans (step_le nb (rel_ok h p.1 p.2 d.1 d.2) hp hp) (rel_nb h hp hn)
    · have := step_nb nb (rel_ok h p.1 p.2 c.1 c.2) hp d hd hne hn
      rw [rel_at h hp hn hne'] at this
      exact this
theorem step_ge {E : Int → Int → Int} (hl : ∀ x y dx dy, -1 ≤ dx → dx ≤ 1 → -1 ≤ dy → dy ≤ 1 → inG wd ht x y → inG wd ht (x + dx) (y + dy) → E x y ≤ E (x + dx) (y + dy) + 1) :
    ∀ (nb : List (Int × Int)) {L : List Int} {p : Int × Int}, (∀ d ∈ nb, -1 ≤ d.1 ∧ d.1 ≤ 1 ∧ -1 ≤ d.2 ∧ d.2 ≤ 1) → OkD wd ht L → inG wd ht p.1 p.2 → (∀ u v, inG wd ht u v → E u v ≤ gat wd L u v) → ∀ u v, inG wd ht u v → E u v ≤ gat wd (stepD wd ht nb L p) u v
  | [], _, _, _, _, _, hE => hE
  | d :: nb, L, p, hd, h, hp, hE => by
    obtain ⟨d0, d1, d2, d3⟩ := hd d List.mem_cons_self
    exact step_ge hl nb (fun c hc => hd c (List.mem_cons_of_mem _ hc)) (rel_ok h p.1 p.2 d.1 d.2) hp (rel_ge h hE hp (hl _ _ _ _ d0 d1 d2 d3 hp))
theorem step_zero : ∀ (nb : List (Int × Int)) {L : List Int} {p : Int × Int} {u v : Int}, OkD wd ht L → inG wd ht p.1 p.2 → inG wd ht u v → (gat wd (stepD wd ht nb L p) u v = 0 ↔ gat wd L u v = 0)
  | [], _, _, _, _, _, _, _ => Iff.rfl
  | d :: nb, _, p, u, v, h, hp, hu => (step_zero nb (rel_ok h p.1 p.2 d.1 d.2) hp hu).trans (rel_zero h hp hu)
-- passes
variable {nb : List (Int × Int)}
theorem pass_ok : ∀ (pts : List (Int × Int)) {L : List Int}, OkD wd ht L → OkD wd ht (passD wd ht nb pts L)
  | [], _, h => h
  | p :: pts, _, h => pass_ok pts (step_ok nb p h)
theorem pass_at : ∀ (pts : List (Int × Int)) {L : List Int} {u v : Int}, OkD wd ht L → (∀ p ∈ pts, inG wd ht p.1 p.2) → inG wd ht u v → (u, v) ∉ pts → gat wd (passD wd ht nb pts L) u v = gat wd L u v
  | [], _, _, _, _, _, _, _ => rfl
  | p :: pts, _, u, v, h, hp, hu, hne =>
    (pass_at pts (step_ok nb p h) (fun q hq => hp q (List.mem_cons_of_mem _ hq)) hu (fun hm => hne (List.mem_cons_of_mem _ hm))).trans
      (step_at nb h (hp p List.mem_cons_self) hu (fun e => hne (by rw [← e.1, ← e.2]; exact List.mem_cons_self)))
theorem pass_le : ∀ (pts : List (Int × Int)) {L : List Int} {u v : Int}, OkD wd ht L → (∀ p ∈ pts, inG wd ht p.1 p.2) → inG wd ht u v → gat wd (passD wd ht nb pts L) u v ≤ gat wd L u v
  | [], _, _, _, _, _, _ => Int.le_refl _
  | p :: pts, _, u, v, h, hp, hu =>
    Int.le_trans (pass_le pts (step_ok nb p h) (fun q hq => hp q (List.mem_cons_of_mem _ hq)) hu) (step_le nb h (hp p List.mem_cons_self) hu)
theorem pass_zero : ∀ (pts : List (Int × Int)) {L : List Int} {u v : Int}, OkD wd ht L → (∀ p ∈ pts, inG wd ht p.1 p.2) → inG wd ht u v → (gat wd (passD wd ht nb pts L) u v = 0 ↔ gat wd L u v = 0)
  | [], _, _, _, _, _, _ => Iff.rfl
  | p :: pts, _, u, v, h, hp, hu =>
    (pass_zero pts (step_ok nb p h) (fun q hq => hp q (List.mem_cons_of_mem _ hq)) hu).trans (step_zero nb h (hp p List.mem_cons_self) hu)
theorem pass_ge {E : Int → Int → Int} (hl : ∀ x y dx dy, -1 ≤ dx → dx ≤ 1 → -1 ≤ dy → dy ≤ 1 → inG wd ht x y → inG wd ht (x + dx) (y + dy) → E x y ≤ E (x + dx) (y + dy) + 1) (hd : ∀ d ∈ nb, -1 ≤ d.1 ∧ d.1 ≤ 1 ∧ -1 ≤ d.2 ∧ d.2 ≤ 1) :
    ∀ (pts : List (Int × Int)) {L : List Int}, OkD wd ht L → (∀ p ∈ pts, inG wd ht p.1 p.2) → (∀ u v, inG wd ht u v → E u v ≤ gat wd L u v) → ∀ u v, inG wd ht u v → E u v ≤ gat wd (passD wd ht nb pts L) u v
  | [], _, _, _, hE => hE
  | p :: pts, _, h, hp, hE => pass_ge hl hd pts (step_ok nb p h) (fun q hq => hp q (List.mem_cons_of_mem _ hq)) (step_ge hl nb hd h (hp p List.mem_cons_self) hE)
/-- Behind a pass in an order in which the neighbours come first, each value is at most one more than those of its neighbours. -/
theorem pass_nb {R : Int × Int → Int × Int → Prop} (hi : ∀ p, ¬ R p p) (ht' : ∀ {a b c}, R a b → R b c → R a c) (hR : ∀ p, ∀ d ∈ nb, R (p.1 + d.1, p.2 + d.2) p) :
    ∀ (pts : List (Int × Int)) {L : List Int}, OkD wd ht L → (∀ p ∈ pts, inG wd ht p.1 p.2) → pts.Pairwise R → ∀ p ∈ pts, ∀ d ∈ nb, inG wd ht (p.1 + d.1) (p.2 + d.2) →
      gat wd (passD wd ht nb pts L) p.1 p.2 ≤ gat wd (passD wd ht nb pts L) (p.1 + d.1) (p.2 + d.2) + 1
  | [], _, _, _, _, p, hp, _, _, _ => by simp at hp
  | q :: pts, L, h, hin, hpw, p, hp, d, hd, hn => by
    have hq := hin q List.mem_cons_self
    have hin' : ∀ p ∈ pts, inG wd ht p.1 p.2 := fun r hr => hin r (List.mem_cons_of_mem _ hr)
    rw [List.pairwise_cons] at hpw
    rcases List.mem_cons.1 hp with e | hp
    · subst e
      show gat wd (passD wd ht nb pts (stepD wd ht nb L p)) _ _ ≤ gat wd (passD wd ht nb pts (stepD wd ht nb L p)) _ _ + 1
      have hne : (p.1 + d.1, p.2 + d.2) ≠ p := fun e => hi p (by have := hR p d hd; rw [e] at this; exact this)
      rw [pass_at pts (step_ok nb p h) hin' hq (fun hm => hi p (hpw.1 p hm)),
        pass_at pts (step_ok nb p h) hin' hn (fun hm => hi p (ht' (hpw.1 _ hm) (hR p d hd))),
        step_at nb h hq hn (fun e => hne (by rw [← e.1, ← e.2]))]
      exact step_nb nb h hq d hd hne hn
    · exact pass_nb hi ht' hR pts (step_ok nb q h) hin' hpw.2 p hp d hd hn
end
end Go.Proofs.Ytndablijjkchjaa
