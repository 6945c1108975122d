/-
  The distance transform in plain Lean: the two passes together.
-/
import Derived.Test.YtndablijjkchjaaDtP
namespace Go.Proofs.Ytndablijjkchjaa
set_option linter.unusedSimpArgs false
set_option linter.unusedVariables false

def fwdN : List (Int × Int) := [(-1, 0), (-1, -1), (0, -1), (1, -1)]
def bwdN : List (Int × Int) := [(1, 0), (1, 1), (0, 1), (-1, 1)]
def fpt (x y : Int) : Int × Int := (x, y)
def bpt (wd ht : Nat) (x y : Int) : Int × Int := ((wd : Int) - 1 - x, (ht : Int) - 1 - y)
def f0D (v : Int) : Int := if 0 < v then 255 else v
def fwdL (wd ht : Nat) (l : List Int) : List Int := passD wd ht fwdN (madeL fpt 0 0 wd ht) (l.map f0D)
def dtP (wd ht : Nat) (l : List Int) : List Int := passD wd ht bwdN (madeL (bpt wd ht) 0 0 wd ht) (fwdL wd ht l)
theorem pass_snoc (wd ht : Nat) (nb pts : List (Int × Int)) (p : Int × Int) (L : List Int) : passD wd ht nb (pts ++ [p]) L = stepD wd ht nb (passD wd ht nb pts L) p := by unfold passD; rw [List.foldl_append]; rfl
theorem step_fwd (wd ht : Nat) (L : List Int) (x y : Int) : stepD wd ht fwdN L (x, y) = relP wd ht (relP wd ht (relP wd ht (relP wd ht L x y (-1) 0) x y (-1) (-1)) x y 0 (-1)) x y 1 (-1) := rfl
theorem step_bwd (wd ht : Nat) (L : List Int) (x y : Int) : stepD wd ht bwdN L (x, y) = relP wd ht (relP wd ht (relP wd ht (relP wd ht L x y 1 0) x y 1 1) x y 0 1) x y (-1) 1 := rfl

section
variable {α : Type}
theorem row_mem {g : Int → Int → α} {x0 y : Int} {n : Nat} {p : α} (h : p ∈ rowL g x0 y n) : ∃ i : Nat, i < n ∧ p = g (x0 + i) y := by
  unfold rowL at h
  obtain ⟨i, hi, rfl⟩ := List.mem_map.1 h
  exact ⟨i, List.mem_range.1 hi, rfl⟩
theorem made_mem {g : Int → Int → α} {x0 y0 : Int} {wd : Nat} {p : α} : ∀ {ht : Nat}, p ∈ madeL g x0 y0 wd ht → ∃ i j : Nat, i < wd ∧ j < ht ∧ p = g (x0 + i) (y0 + j)
  | 0, h => by simp [madeL] at h
  | ht + 1, h => by
    rw [madeL_succ] at h
    rcases List.mem_append.1 h with h | h
    · obtain ⟨i, j, hi, hj, e⟩ := made_mem h
      exact ⟨i, j, hi, by omega, e⟩
    · obtain ⟨i, hi, e⟩ := row_mem h
      exact ⟨i, ht, hi, by omega, e⟩
theorem mem_made (g : Int → Int → α) (x0 y0 : Int) {wd ht i j : Nat} (hi : i < wd) (hj : j < ht) : g (x0 + i) (y0 + j) ∈ madeL g x0 y0 wd ht := List.mem_of_getElem? (made_get g x0 y0 hi hj)
theorem row_pair {R : α → α → Prop} {g : Int → Int → α} {x0 y : Int} (h : ∀ i j : Nat, i < j → R (g (x0 + i) y) (g (x0 + j) y)) : ∀ n, (rowL g x0 y n).Pairwise R
  | 0 => by simp [rowL]
  | n + 1 => by
    rw [rowL_succ, List.pairwise_append]
    refine ⟨row_pair h n, List.pairwise_singleton _ _, fun a ha b hb => ?_⟩
    obtain ⟨i, hi, rfl⟩ := row_mem ha
    rw [List.mem_singleton.1 hb]
    exact h i n hi
theorem made_pair {R : α → α → Prop} {g : Int → Int → α} {x0 y0 : Int} {wd : Nat} (h : ∀ (i j : Nat) (y : Int), i < j → R (g (x0 + i) y) (g (x0 + j) y)) (h2 : ∀ (i i' j j' : Nat), j < j' → R (g (x0 + i) (y0 + j)) (g (x0 + i') (y0 + j'))) : ∀ ht, (madeL g x0 y0 wd ht).Pairwise R
  | 0 => by simp [madeL]
  | ht + 1 => by
    rw [madeL_succ, List.pairwise_append]
    refine ⟨made_pair h h2 ht, row_pair (fun i j => h i j _) wd, fun a ha b hb => ?_⟩
    obtain ⟨i, j, hi, hj, rfl⟩ := made_mem ha
    obtain ⟨i', hi', rfl⟩ := row_mem hb
    exact h2 i i' j ht hj
end

/-- Reading order, and its reverse. -/
def lexR (p q : Int × Int) : Prop := p.2 < q.2 ∨ p.2 = q.2 ∧ p.1 < q.1
def xelR (p q : Int × Int) : Prop := lexR q p
variable {wd ht : Nat}
theorem fpts_in : ∀ p ∈ madeL fpt 0 0 wd ht, inG wd ht p.1 p.2 := fun p hp => by
  obtain ⟨i, j, hi, hj, rfl⟩ := made_mem hp
  unfold fpt inG; dsimp only; omega
theorem bpts_in : ∀ p ∈ madeL (bpt wd ht) 0 0 wd ht, inG wd ht p.1 p.2 := fun p hp => by
  obtain ⟨i, j, hi, hj, rfl⟩ := made_mem hp
  unfold bpt inG; dsimp only; omega
theorem in_fpts {x y : Int} (h : inG wd ht x y) : (x, y) ∈ madeL fpt 0 0 wd ht := by
  obtain ⟨h0, h1, h2, h3⟩ := h
  have := mem_made fpt 0 0 (wd := wd) (ht := ht) (i := x.toNat) (j := y.toNat) (by omega) (by omega)
  unfold fpt at this
  rw [show (0 : Int) + (x.toNat : Int) = x by omega, show (0 : Int) + (y.toNat : Int) = y by omega] at this
  exact this
theorem in_bpts {x y : Int} (h : inG wd ht x y) : (x, y) ∈ madeL (bpt wd ht) 0 0 wd ht := by
  obtain ⟨h0, h1, h2, h3⟩ := h
  have := mem_made (bpt wd ht) 0 0 (wd := wd) (ht := ht) (i := (wd - 1 - x).toNat) (j := (ht - 1 - y).toNat) (by omega) (by omega)
  unfold bpt at this
  rw [show (wd : Int) - 1 - (0 + (((wd : Int) - 1 - x).toNat : Int)) = x by omega, show (ht : Int) - 1 - (0 + (((ht : Int) - 1 - y).toNat : Int)) = y by omega] at this
  exact this
theorem fpts_pair : (madeL fpt 0 0 wd ht).Pairwise lexR :=
  made_pair (fun i j y h => by unfold lexR fpt; dsimp only; omega) (fun i i' j j' h => by unfold lexR fpt; dsimp only; omega) ht
theorem bpts_pair : (madeL (bpt wd ht) 0 0 wd ht).Pairwise xelR :=
  made_pair (fun i j y h => by unfold xelR lexR bpt; dsimp only; omega) (fun i i' j j' h => by unfold xelR lexR bpt; dsimp only; omega) ht
theorem nb_bd {nb : List (Int × Int)} (h : nb = fwdN ∨ nb = bwdN) : ∀ d ∈ nb, -1 ≤ d.1 ∧ d.1 ≤ 1 ∧ -1 ≤ d.2 ∧ d.2 ≤ 1 := by
  rcases h with rfl | rfl <;> intro d hd <;> simp [fwdN, bwdN] at hd <;> rcases hd with rfl | rfl | rfl | rfl <;> decide
theorem f0_ok {l : List Int} (hl : l.length = wd * ht) : OkD wd ht (l.map f0D) ∨ ¬ bytesB l := by
  by_cases hb : bytesB l
  · refine .inl ⟨by rw [List.length_map]; exact hl, fun v hv => ?_⟩
    obtain ⟨u, hu, rfl⟩ := List.mem_map.1 hv
    have := hb u hu
    unfold f0D; split <;> omega
  · exact .inr hb
section
theorem f0_okD {l : List Int} (hl : l.length = wd * ht) (hb : bytesB l) : OkD wd ht (l.map f0D) := (f0_ok hl).resolve_right (fun h => h hb)
theorem fwd_ok {l : List Int} (hl : l.length = wd * ht) (hb : bytesB l) : OkD wd ht (fwdL wd ht l) := pass_ok _ (f0_okD hl hb)
theorem dt_ok {l : List Int} (hl : l.length = wd * ht) (hb : bytesB l) : OkD wd ht (dtP wd ht l) := pass_ok _ (fwd_ok hl hb)
theorem fwd_nb {l : List Int} (hl : l.length = wd * ht) (hb : bytesB l) : ∀ x y, inG wd ht x y → ∀ d ∈ fwdN, inG wd ht (x + d.1) (y + d.2) → gat wd (fwdL wd ht l) x y ≤ gat wd (fwdL wd ht l) (x + d.1) (y + d.2) + 1 := fun x y h d hd hn =>
  pass_nb (R := lexR) (fun p h => by unfold lexR at h; omega) (fun {a b c} h1 h2 => by unfold lexR at *; omega)
    (fun p d hd => by simp [fwdN] at hd; rcases hd with rfl | rfl | rfl | rfl <;> unfold lexR <;> dsimp only <;> omega)
    (madeL fpt 0 0 wd ht) (f0_okD hl hb) fpts_in fpts_pair (x, y) (in_fpts h) d hd hn
theorem dt_nb {l : List Int} (hl : l.length = wd * ht) (hb : bytesB l) : ∀ x y, inG wd ht x y → ∀ d ∈ bwdN, inG wd ht (x + d.1) (y + d.2) → gat wd (dtP wd ht l) x y ≤ gat wd (dtP wd ht l) (x + d.1) (y + d.2) + 1 := fun x y h d hd hn =>
  pass_nb (R := xelR) (fun p h => by unfold xelR lexR at h; omega) (fun {a b c} h1 h2 => by unfold xelR lexR at *; omega)
    (fun p d hd => by simp [bwdN] at hd; rcases hd with rfl | rfl | rfl | rfl <;> unfold xelR lexR <;> dsimp only <;> omega)
    (madeL (bpt wd ht) 0 0 wd ht) (fwd_ok hl hb) bpts_in bpts_pair (x, y) (in_bpts h) d hd hn
theorem dt_le_fwd {l : List Int} (hl : l.length = wd * ht) (hb : bytesB l) : ∀ x y, inG wd ht x y → gat wd (dtP wd ht l) x y ≤ gat wd (fwdL wd ht l) x y := fun x y h => pass_le _ (fwd_ok hl hb) bpts_in h
theorem gat_map {l : List Int} (hl : l.length = wd * ht) {x y : Int} (h : inG wd ht x y) (F : Int → Int) : gat wd (l.map F) x y = F (gat wd l x y) := by
  have := gix_lt h
  unfold gat
  rw [List.getD_eq_getElem?_getD, List.getD_eq_getElem?_getD, List.getElem?_map, List.getElem?_eq_getElem (by rw [hl]; exact this)]; rfl
theorem f0_zero {v : Int} : f0D v = 0 ↔ v = 0 := by unfold f0D; split <;> omega
theorem dt_zero {l : List Int} (hl : l.length = wd * ht) (hb : bytesB l) : ∀ x y, inG wd ht x y → (gat wd (dtP wd ht l) x y = 0 ↔ gat wd l x y = 0) := fun x y h => by
  have h1 := pass_zero (nb := bwdN) _ (fwd_ok hl hb) bpts_in h
  have h2 := pass_zero (nb := fwdN) _ (f0_okD hl hb) fpts_in h
  rw [gat_map hl h, f0_zero] at h2
  exact h1.trans h2
theorem fwd_zero {l : List Int} (hl : l.length = wd * ht) (hb : bytesB l) : ∀ x y, inG wd ht x y → gat wd l x y = 0 → gat wd (fwdL wd ht l) x y = 0 := fun x y h h0 => by
  have h2 := pass_zero (nb := fwdN) _ (f0_okD hl hb) fpts_in h
  rw [gat_map hl h, f0_zero] at h2
  exact h2.2 h0
end
/-- Many moves in one direction. -/
theorem run_le {G : Int → Int → Int} {dx dy : Int} (hd : -1 ≤ dx ∧ dx ≤ 1 ∧ -1 ≤ dy ∧ dy ≤ 1) (h : ∀ x y, inG wd ht x y → inG wd ht (x + dx) (y + dy) → G x y ≤ G (x + dx) (y + dy) + 1) :
    ∀ (n : Nat) (x y u v : Int), u = x + n * dx → v = y + n * dy → inG wd ht x y → inG wd ht u v → G x y ≤ G u v + n
  | 0, x, y, u, v, hu, hv, _, _ => by
    rw [show u = x by simpa using hu, show v = y by simpa using hv]; simp
  | n + 1, x, y, u, v, hu, hv, hx, huv => by
    have hm : inG wd ht (x + dx) (y + dy) := by
      obtain ⟨a0, a1, a2, a3⟩ := hx
      obtain ⟨b0, b1, b2, b3⟩ := huv
      have e1 : dx = -1 ∨ dx = 0 ∨ dx = 1 := by omega
      have e2 : dy = -1 ∨ dy = 0 ∨ dy = 1 := by omega
      unfold inG
      rcases e1 with rfl | rfl | rfl <;> rcases e2 with rfl | rfl | rfl <;> simp only [Int.mul_zero, Int.mul_one, Int.mul_neg] at hu hv <;> omega
    have ih := run_le hd h n (x + dx) (y + dy) u v (by rw [hu]; push_cast; rw [Int.add_mul, Int.one_mul]; omega) (by rw [hv]; push_cast; rw [Int.add_mul, Int.one_mul]; omega) hm huv
    have := h x y hx hm
    push_cast
    omega
def chebD (x y u v : Int) : Int := max (max (u - x) (x - u)) (max (v - y) (y - v))
theorem cheb_step {x y u v dx dy : Int} (hd : -1 ≤ dx ∧ dx ≤ 1 ∧ -1 ≤ dy ∧ dy ≤ 1) : chebD x y u v ≤ chebD (x + dx) (y + dy) u v + 1 := by unfold chebD; omega
theorem cheb_zero {x y u v : Int} (h : chebD x y u v = 0) : u = x ∧ v = y := by unfold chebD at h; omega
section
/-- The value is at most the way to each zero. -/
theorem dt_cheb {l : List Int} (hl : l.length = wd * ht) (hb : bytesB l) {x y u v : Int} (hx : inG wd ht x y) (hu : inG wd ht u v) (h0 : gat wd l u v = 0) : gat wd (dtP wd ht l) x y ≤ chebD x y u v := by
  have F0 := fwd_zero hl hb u v hu h0
  have BF := dt_le_fwd hl hb
  have BN := dt_nb hl hb
  have FN := fwd_nb hl hb
  have B1 := fun (n : Nat) x y u v => run_le (wd := wd) (ht := ht) (G := gat wd (dtP wd ht l)) (dx := 1) (dy := 0) (by decide) (fun x y h h' => BN x y h (1, 0) (by simp [bwdN]) h') n x y u v
  have B2 := fun (n : Nat) x y u v => run_le (wd := wd) (ht := ht) (G := gat wd (dtP wd ht l)) (dx := 1) (dy := 1) (by decide) (fun x y h h' => BN x y h (1, 1) (by simp [bwdN]) h') n x y u v
  have B3 := fun (n : Nat) x y u v => run_le (wd := wd) (ht := ht) (G := gat wd (dtP wd ht l)) (dx := 0) (dy := 1) (by decide) (fun x y h h' => BN x y h (0, 1) (by simp [bwdN]) h') n x y u v
  have B4 := fun (n : Nat) x y u v => run_le (wd := wd) (ht := ht) (G := gat wd (dtP wd ht l)) (dx := -1) (dy := 1) (by decide) (fun x y h h' => BN x y h (-1, 1) (by simp [bwdN]) h') n x y u v
  have F1 := fun (n : Nat) x y u v => run_le (wd := wd) (ht := ht) (G := gat wd (fwdL wd ht l)) (dx := -1) (dy := 0) (by decide) (fun x y h h' => FN x y h (-1, 0) (by simp [fwdN]) h') n x y u v
  have F2 := fun (n : Nat) x y u v => run_le (wd := wd) (ht := ht) (G := gat wd (fwdL wd ht l)) (dx := -1) (dy := -1) (by decide) (fun x y h h' => FN x y h (-1, -1) (by simp [fwdN]) h') n x y u v
  have F3 := fun (n : Nat) x y u v => run_le (wd := wd) (ht := ht) (G := gat wd (fwdL wd ht l)) (dx := 0) (dy := -1) (by decide) (fun x y h h' => FN x y h (0, -1) (by simp [fwdN]) h') n x y u v
  have F4 := fun (n : Nat) x y u v => run_le (wd := wd) (ht := ht) (G := gat wd (fwdL wd ht l)) (dx := 1) (dy := -1) (by decide) (fun x y h h' => FN x y h (1, -1) (by simp [fwdN]) h') n x y u v
  clear BN FN
  have Bu := BF u v hu
  have Bx := BF x y hx
  have hx' := hx
  have hu' := hu
  obtain ⟨a0, a1, a2, a3⟩ := hx'
  obtain ⟨b0, b1, b2, b3⟩ := hu'
  unfold chebD
  by_cases hy : y ≤ v
  · by_cases h1 : v - y < u - x
    · -- to the right, backward only
      have hm : inG wd ht (x + (v - y)) v := ⟨by omega, by omega, by omega, by omega⟩
      have r1 := B2 (v - y).toNat x y (x + (v - y)) v (by omega) (by omega) hx hm
      have r2 := B1 (u - x - (v - y)).toNat (x + (v - y)) v u v (by omega) (by omega) hm hu
      omega
    · by_cases h2 : v - y < x - u
      · have hm : inG wd ht (x - (v - y)) v := ⟨by omega, by omega, by omega, by omega⟩
        have r1 := B4 (v - y).toNat x y (x - (v - y)) v (by omega) (by omega) hx hm
        have r2 := F1 (x - u - (v - y)).toNat (x - (v - y)) v u v (by omega) (by omega) hm hu
        have r3 := BF _ _ hm
        omega
      · by_cases h3 : x ≤ u
        · have hm : inG wd ht u (y + (u - x)) := ⟨by omega, by omega, by omega, by omega⟩
          have r1 := B2 (u - x).toNat x y u (y + (u - x)) (by omega) (by omega) hx hm
          have r2 := B3 (v - y - (u - x)).toNat u (y + (u - x)) u v (by omega) (by omega) hm hu
          omega
        · have hm : inG wd ht u (y + (x - u)) := ⟨by omega, by omega, by omega, by omega⟩
          have r1 := B4 (x - u).toNat x y u (y + (x - u)) (by omega) (by omega) hx hm
          have r2 := B3 (v - y - (x - u)).toNat u (y + (x - u)) u v (by omega) (by omega) hm hu
          omega
  · by_cases h1 : y - v < x - u
    · have hm : inG wd ht (x - (y - v)) v := ⟨by omega, by omega, by omega, by omega⟩
      have r1 := F2 (y - v).toNat x y (x - (y - v)) v (by omega) (by omega) hx hm
      have r2 := F1 (x - u - (y - v)).toNat (x - (y - v)) v u v (by omega) (by omega) hm hu
      omega
    · by_cases h2 : y - v < u - x
      · have hm : inG wd ht (x + (u - x - (y - v))) y := ⟨by omega, by omega, by omega, by omega⟩
        have r1 := B1 (u - x - (y - v)).toNat x y (x + (u - x - (y - v))) y (by omega) (by omega) hx hm
        have r2 := F4 (y - v).toNat (x + (u - x - (y - v))) y u v (by omega) (by omega) hm hu
        have r3 := BF _ _ hm
        omega
      · by_cases h3 : x ≤ u
        · have hm : inG wd ht u (y - (u - x)) := ⟨by omega, by omega, by omega, by omega⟩
          have r1 := F4 (u - x).toNat x y u (y - (u - x)) (by omega) (by omega) hx hm
          have r2 := F3 (y - v - (u - x)).toNat u (y - (u - x)) u v (by omega) (by omega) hm hu
          omega
        · have hm : inG wd ht u (y - (x - u)) := ⟨by omega, by omega, by omega, by omega⟩
          have r1 := F2 (x - u).toNat x y u (y - (x - u)) (by omega) (by omega) hx hm
          have r2 := F3 (y - v - (x - u)).toNat u (y - (x - u)) u v (by omega) (by omega) hm hu
          omega
end
/-- The distance to the nearest of the points of a list with a mark, at most 255. -/
def nearP (z : Int → Int → Bool) (pts : List (Int × Int)) (x y : Int) : Int := pts.foldl (fun d q => if z q.1 q.2 then min d (chebD x y q.1 q.2) else d) 255
theorem near_fold (z : Int → Int → Bool) (x y : Int) : ∀ (pts : List (Int × Int)) (d0 : Int), let d := pts.foldl (fun d q => if z q.1 q.2 then min d (chebD x y q.1 q.2) else d) d0; d ≤ d0 ∧ (∀ q ∈ pts, z q.1 q.2 = true → d ≤ chebD x y q.1 q.2) ∧ (d = d0 ∨ ∃ q ∈ pts, z q.1 q.2 = true ∧ d = chebD x y q.1 q.2)
  | [], d0 => ⟨Int.le_refl _, fun q hq => by simp at hq, .inl rfl⟩
  | p :: pts, d0 => by
    dsimp only [List.foldl_cons]
    obtain ⟨h1, h2, h3⟩ := near_fold z x y pts (if z p.1 p.2 then min d0 (chebD x y p.1 p.2) else d0)
    cases hz : z p.1 p.2 with
    | false =>
      rw [hz] at h1 h2 h3
      refine ⟨h1, fun q hq hzq => ?_, ?_⟩
      · rcases List.mem_cons.1 hq with e | hq
        · rw [e, hz] at hzq; cases hzq
        · exact h2 q hq hzq
      · rcases h3 with h3 | ⟨q, hq, h3⟩
        · exact .inl h3
        · exact .inr ⟨q, List.mem_cons_of_mem _ hq, h3⟩
    | true =>
      rw [hz, if_pos rfl] at h1 h2 h3
      refine ⟨by rw [if_pos rfl]; omega, fun q hq hzq => ?_, ?_⟩
      · rw [if_pos rfl]
        rcases List.mem_cons.1 hq with e | hq
        · rw [e]; omega
        · exact h2 q hq hzq
      · rw [if_pos rfl]
        rcases h3 with h3 | ⟨q, hq, h3⟩
        · by_cases hm : d0 ≤ chebD x y p.1 p.2
          · exact .inl (by rw [h3]; omega)
          · exact .inr ⟨p, List.mem_cons_self, hz, by rw [h3]; omega⟩
        · exact .inr ⟨q, List.mem_cons_of_mem _ hq, h3⟩
theorem near_spec (z : Int → Int → Bool) (pts : List (Int × Int)) (x y : Int) : nearP z pts x y ≤ 255 ∧ (∀ q ∈ pts, z q.1 q.2 = true → nearP z pts x y ≤ chebD x y q.1 q.2) ∧ (nearP z pts x y = 255 ∨ ∃ q ∈ pts, z q.1 q.2 = true ∧ nearP z pts x y = chebD x y q.1 q.2) := near_fold z x y pts 255
theorem near_lip (z : Int → Int → Bool) (pts : List (Int × Int)) {x y dx dy : Int} (hd : -1 ≤ dx ∧ dx ≤ 1 ∧ -1 ≤ dy ∧ dy ≤ 1) : nearP z pts x y ≤ nearP z pts (x + dx) (y + dy) + 1 := by
  obtain ⟨h1, h2, _⟩ := near_spec z pts x y
  obtain ⟨_, _, k3⟩ := near_spec z pts (x + dx) (y + dy)
  rcases k3 with k3 | ⟨q, hq, hz, k3⟩
  · omega
  · have h4 := h2 q hq hz
    have h5 := cheb_step (x := x) (y := y) (u := q.1) (v := q.2) hd
    omega
section
/-- The two passes give the distance to the nearest zero. -/
theorem dt_near {l : List Int} (hl : l.length = wd * ht) (hb : bytesB l) {x y : Int} (hx : inG wd ht x y) : gat wd (dtP wd ht l) x y = nearP (fun u v => gat wd l u v == 0) (madeL fpt 0 0 wd ht) x y := by
  apply Int.le_antisymm
  · obtain ⟨_, _, h3⟩ := near_spec (fun u v => gat wd l u v == 0) (madeL fpt 0 0 wd ht) x y
    rcases h3 with h3 | ⟨q, hq, hz, h3⟩
    · rw [h3]; exact (gat_byte (dt_ok hl hb).byte x y).2
    · rw [h3]; exact dt_cheb hl hb hx (fpts_in q hq) (by simpa using hz)
  · refine pass_ge (E := fun x y => nearP (fun u v => gat wd l u v == 0) (madeL fpt 0 0 wd ht) x y) (fun x y dx dy h0 h1 h2 h3 _ _ => near_lip _ _ ⟨h0, h1, h2, h3⟩) (nb_bd (.inr rfl)) _ (fwd_ok hl hb) bpts_in ?_ x y hx
    refine pass_ge (fun x y dx dy h0 h1 h2 h3 _ _ => near_lip _ _ ⟨h0, h1, h2, h3⟩) (nb_bd (.inl rfl)) _ (f0_okD hl hb) fpts_in ?_
    intro u v hu
    obtain ⟨h1, h2, _⟩ := near_spec (fun u v => gat wd l u v == 0) (madeL fpt 0 0 wd ht) u v
    rw [gat_map hl hu]
    have hby := gat_byte (wd := wd) hb u v
    unfold f0D
    split
    · exact h1
    · have hz : gat wd l u v = 0 := by omega
      have h4 := h2 (u, v) (in_fpts hu) (by simpa using hz)
      have h5 : chebD u v u v = 0 := by unfold chebD; omega
      dsimp only at h4
      omega
theorem dt_lip {l : List Int} (hl : l.length = wd * ht) (hb : bytesB l) {x y u v : Int} (hx : inG wd ht x y) (hu : inG wd ht u v) (hd : -1 ≤ u - x ∧ u - x ≤ 1 ∧ -1 ≤ v - y ∧ v - y ≤ 1) : gat wd (dtP wd ht l) x y ≤ gat wd (dtP wd ht l) u v + 1 := by
  rw [dt_near hl hb hx, dt_near hl hb hu]
  have := near_lip (fun u v => gat wd l u v == 0) (madeL fpt 0 0 wd ht) (x := x) (y := y) hd
  rwa [show x + (u - x) = u by omega, show y + (v - y) = v by omega] at this
end
end Go.Proofs.Ytndablijjkchjaa
