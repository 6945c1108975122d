/-
  Tables of sums: plain Lean.
-/
import Derived.Test.YtnefnnhnjmmebaaBlurQ
import Derived.Test.YtnefnnhnjmmebaaPxEq
import Derived.Test.YtnefnnhnjmmebaaPlB
import Derived.Laws.MakeOwn
namespace Go.Proofs.Ytnefnnhnjmmebaa
open Go.RowKit
set_option linter.unusedSimpArgs false
set_option linter.unusedVariables false

def encI (p : Px) : List Value := [.int .i64 p.r, .int .i64 p.g, .int .i64 p.b, .int .i64 p.a]
theorem encI_len (p : Px) : (encI p).length = 4 := rfl
theorem encI_one (p : Px) : ∀ u ∈ encI p, u.oneCell' = true := by intro u hu; simp [encI] at hu; rcases hu with rfl | rfl | rfl | rfl <;> rfl
theorem Try.infoI4 : (Try.prog.info? 81).map (fun i => (i.zero, i.size, i.bytes)) = some (some (.agg #[.int .i64 0, .int .i64 0, .int .i64 0, .int .i64 0]), 4, 32) := by kernel_rfl
theorem rdi {w : World} {A : Option Addr} {l : List Px} (h : RdL encI 4 w A l) {k : Nat} (hk : k < l.length) : ∃ g o, A = some ⟨g, o, none⟩ ∧ g < w.heap.size ∧
    w.cell? ⟨g, o + k * 4, none⟩ = some (.int .i64 (l[k]).r) ∧ w.cell? ⟨g, o + k * 4 + 1, none⟩ = some (.int .i64 (l[k]).g) ∧ w.cell? ⟨g, o + k * 4 + 2, none⟩ = some (.int .i64 (l[k]).b) ∧ w.cell? ⟨g, o + k * 4 + 3, none⟩ = some (.int .i64 (l[k]).a) := by
  obtain ⟨g, o, hA, hg, hc⟩ := h (by intro e; rw [e] at hk; simp at hk)
  exact ⟨g, o, hA, hg, hc k hk 0 _ rfl, hc k hk 1 _ rfl, hc k hk 2 _ rfl, hc k hk 3 _ rfl⟩
/-- The four sums left of and above a corner. -/
def sum4 (L : List Px) (wd i j : Nat) : Px := ⟨sumS (cF L wd 0) i j, sumS (cF L wd 1) i j, sumS (cF L wd 2) i j, sumS (cF L wd 3) i j⟩
def pz : Px := ⟨0, 0, 0, 0⟩
def tix (wd i j : Nat) : Nat := j * (wd + 1) + i
theorem tix_lt {wd ht i j : Nat} (hi : i ≤ wd) (hj : j ≤ ht) : tix wd i j < (wd + 1) * (ht + 1) := by
  unfold tix
  have h : (j + 1) * (wd + 1) ≤ (ht + 1) * (wd + 1) := Nat.mul_le_mul_right _ (by omega)
  rw [Nat.succ_mul, Nat.mul_comm (ht + 1)] at h
  omega
theorem tix_inj {wd i j a b : Nat} (hi : i ≤ wd) (ha : a ≤ wd) (h : tix wd i j = tix wd a b) : i = a ∧ j = b := by
  unfold tix at h
  have e1 : (j * (wd + 1) + i) % (wd + 1) = (b * (wd + 1) + a) % (wd + 1) := by rw [h]
  have e2 : (j * (wd + 1) + i) / (wd + 1) = (b * (wd + 1) + a) / (wd + 1) := by rw [h]
  rw [Nat.mul_comm j, Nat.mul_comm b, Nat.mul_add_mod, Nat.mul_add_mod, Nat.mod_eq_of_lt (by omega), Nat.mod_eq_of_lt (by omega)] at e1
  rw [Nat.mul_comm j, Nat.mul_comm b, Nat.mul_add_div (by omega), Nat.mul_add_div (by omega), Nat.div_eq_of_lt (by omega), Nat.div_eq_of_lt (by omega)] at e2
  omega
theorem tix_cast (wd i j : Nat) : ((tix wd i j : Nat) : Int) = (j : Int) * ((wd : Int) + 1) + (i : Int) := by unfold tix; simp
theorem tix_bd {wd ht i j : Nat} (hi : i ≤ wd) (hj : j ≤ ht) (hw : wd ≤ 8192) (hh : ht ≤ 8192) : 0 ≤ (j : Int) * ((wd : Int) + 1) ∧ (j : Int) * ((wd : Int) + 1) ≤ 67125249 := by
  have h1 : j * (wd + 1) ≤ 8193 * 8193 := Nat.mul_le_mul (by omega) (by omega)
  have h2 : ((j * (wd + 1) : Nat) : Int) = (j : Int) * ((wd : Int) + 1) := by simp
  omega
/-- The table holds the sums of the rows up to j, and of row j + 1 up to column k. -/
structure TabI (L : List Px) (wd ht j k : Nat) (m : List Px) : Prop where
  len : m.length = (wd + 1) * (ht + 1)
  at_ : ∀ i y, i ≤ wd → y ≤ ht → m[tix wd i y]? = some (if y ≤ j ∨ (y = j + 1 ∧ i ≤ k) then sum4 L wd i y else pz)
theorem sum4_x0 (L : List Px) (wd y : Nat) : sum4 L wd 0 y = pz := by
  have h : ∀ c, sumS (cF L wd c) 0 y = 0 := fun c => by unfold sumS; exact (rowS_congr (g := fun _ => 0) fun _ _ => rfl).trans (by rw [rowS_const]; simp)
  unfold sum4; rw [h, h, h, h]; rfl
theorem sum4_y0 (L : List Px) (wd i : Nat) : sum4 L wd i 0 = pz := rfl
theorem TabI.start (L : List Px) (wd ht : Nat) : TabI L wd ht 0 0 (List.replicate ((wd + 1) * (ht + 1)) pz) := by
  refine ⟨by simp, fun i y hi hy => ?_⟩
  rw [List.getElem?_replicate, if_pos (tix_lt hi hy)]
  split
  · next h =>
    rcases h with h | ⟨h1, h2⟩
    · obtain rfl : y = 0 := by omega
      rfl
    · obtain rfl : i = 0 := by omega
      rw [sum4_x0]
  · rfl
theorem TabI.next {L : List Px} {wd ht j : Nat} {m : List Px} (h : TabI L wd ht j wd m) : TabI L wd ht (j + 1) 0 m := by
  refine ⟨h.len, fun i y hi hy => ?_⟩
  rw [h.at_ i y hi hy]
  by_cases h1 : y ≤ j + 1
  · rw [if_pos (by omega), if_pos (by omega)]
  · rw [if_neg (by omega)]
    split
    · next h2 =>
      obtain rfl : i = 0 := by omega
      rw [sum4_x0]
    · rfl
theorem TabI.step {L : List Px} {wd ht j k : Nat} {m : List Px} (h : TabI L wd ht j k m) (hk : k < wd) (hj : j < ht) : TabI L wd ht j (k + 1) (m.set (tix wd (k + 1) (j + 1)) (sum4 L wd (k + 1) (j + 1))) := by
  refine ⟨by rw [List.length_set]; exact h.len, fun i y hi hy => ?_⟩
  have hlt := tix_lt (wd := wd) (ht := ht) (i := k + 1) (j := j + 1) (by omega) (by omega)
  rw [List.getElem?_set]
  by_cases e : tix wd (k + 1) (j + 1) = tix wd i y
  · obtain ⟨e1, e2⟩ := tix_inj (by omega) hi e
    rw [if_pos e, if_pos (by rw [h.len]; exact hlt), if_pos (by omega), e1, e2]
  · rw [if_neg e, h.at_ i y hi hy]
    have hne : ¬ (i = k + 1 ∧ y = j + 1) := fun hh => e (by rw [hh.1, hh.2])
    by_cases h1 : y ≤ j ∨ (y = j + 1 ∧ i ≤ k)
    · rw [if_pos h1, if_pos (by omega)]
    · rw [if_neg h1, if_neg (by omega)]
/-- The whole table. -/
def TabOk (L : List Px) (wd ht : Nat) (m : List Px) : Prop := m.length = (wd + 1) * (ht + 1) ∧ ∀ i y, i ≤ wd → y ≤ ht → m[tix wd i y]? = some (sum4 L wd i y)
theorem TabI.ok {L : List Px} {wd ht : Nat} {m : List Px} (h : TabI L wd ht ht 0 m) : TabOk L wd ht m := ⟨h.len, fun i y hi hy => by rw [h.at_ i y hi hy, if_pos (by omega)]⟩
def rows4 (L : List Px) (wd k j : Nat) : Px := ⟨rowS (fun i => cF L wd 0 i j) k, rowS (fun i => cF L wd 1 i j) k, rowS (fun i => cF L wd 2 i j) k, rowS (fun i => cF L wd 3 i j) k⟩
def addP (p q : Px) : Px := ⟨p.r + q.r, p.g + q.g, p.b + q.b, p.a + q.a⟩
theorem sum4_succ (L : List Px) (wd k j : Nat) : sum4 L wd k (j + 1) = addP (sum4 L wd k j) (rows4 L wd k j) := rfl
theorem rows4_succ (L : List Px) (wd k j : Nat) : rows4 L wd (k + 1) j = addP (rows4 L wd k j) (L.getD (j * wd + k) ⟨0, 0, 0, 0⟩) := rfl
/-- Components in the small range. -/
def Px.in (p : Px) : Prop := (0 ≤ p.r ∧ p.r ≤ 20000000000) ∧ (0 ≤ p.g ∧ p.g ≤ 20000000000) ∧ (0 ≤ p.b ∧ p.b ≤ 20000000000) ∧ 0 ≤ p.a ∧ p.a ≤ 20000000000
theorem sum4_in {L : List Px} (h : ∀ p ∈ L, p.byte) {wd x y : Nat} (hx : x ≤ 8192) (hy : y ≤ 8192) : (sum4 L wd x y).in := by
  have hb : (y : Int) * ((x : Int) * 255) ≤ 20000000000 := by
    have h1 : y * (x * 255) ≤ 8192 * (8192 * 255) := Nat.mul_le_mul (by omega) (by omega)
    have h2 : ((y * (x * 255) : Nat) : Int) = (y : Int) * ((x : Int) * 255) := by simp
    omega
  have hs := fun c => sumS_bd (f := cF L wd c) (x := x) (y := y) (fun i j _ _ => cF_bd h wd c i j)
  unfold sum4 Px.in
  exact ⟨⟨(hs 0).1, Int.le_trans (hs 0).2 hb⟩, ⟨(hs 1).1, Int.le_trans (hs 1).2 hb⟩, ⟨(hs 2).1, Int.le_trans (hs 2).2 hb⟩, (hs 3).1, Int.le_trans (hs 3).2 hb⟩
theorem rows4_in {L : List Px} (h : ∀ p ∈ L, p.byte) {wd k j : Nat} (hk : k ≤ 8192) : (rows4 L wd k j).in := by
  have hr := fun c => And.intro (rowS_nonneg (f := fun i => cF L wd c i j) (n := k) fun i _ => (cF_bd h wd c i j).1) (rowS_le (f := fun i => cF L wd c i j) (n := k) (m := 255) fun i _ => (cF_bd h wd c i j).2)
  unfold rows4 Px.in
  have h0 := hr 0
  have h1 := hr 1
  have h2 := hr 2
  have h3 := hr 3
  simp only
  omega
/-- The first c components of p, the others of q. -/
def mixq (c : Nat) (p q : Px) : Px := match c with
  | 0 => q
  | 1 => ⟨p.r, q.g, q.b, q.a⟩
  | 2 => ⟨p.r, p.g, q.b, q.a⟩
  | 3 => ⟨p.r, p.g, p.b, q.a⟩
  | _ => p
/-- The sums over the square around x, y. -/
def win4 (L : List Px) (wd ht x y n : Nat) : Px := ⟨winS L wd ht 0 x y n, winS L wd ht 1 x y n, winS L wd ht 2 x y n, winS L wd ht 3 x y n⟩
theorem win4_eq (L : List Px) (wd ht x y n x1 y1 : Nat) (hx : winA x n + winN wd x n = x1) (hy : winA y n + winN ht y n = y1) :
    (⟨(sum4 L wd x1 y1).r + ((sum4 L wd (winA x n) (winA y n)).r - (sum4 L wd (winA x n) y1).r - (sum4 L wd x1 (winA y n)).r),
      (sum4 L wd x1 y1).g + ((sum4 L wd (winA x n) (winA y n)).g - (sum4 L wd (winA x n) y1).g - (sum4 L wd x1 (winA y n)).g),
      (sum4 L wd x1 y1).b + ((sum4 L wd (winA x n) (winA y n)).b - (sum4 L wd (winA x n) y1).b - (sum4 L wd x1 (winA y n)).b),
      (sum4 L wd x1 y1).a + ((sum4 L wd (winA x n) (winA y n)).a - (sum4 L wd (winA x n) y1).a - (sum4 L wd x1 (winA y n)).a)⟩ : Px) = win4 L wd ht x y n := by
  subst hx hy
  unfold win4 winS sum4
  simp only [box_of_sums]
theorem made_flat (n : Nat) : (madeCells #[.int .i64 0, .int .i64 0, .int .i64 0, .int .i64 0] (n * 4)).toList = (List.replicate n pz).flatMap encI := by
  apply List.ext_getElem?
  intro k
  by_cases hk : k < n * 4
  · have h1 : k / 4 < n := by omega
    have h2 := flat_at encI_len (List.replicate n pz) (k / 4) (by simpa using h1) (k % 4) (.int .i64 0) (by
      rw [List.getElem_replicate]
      have : k % 4 = 0 ∨ k % 4 = 1 ∨ k % 4 = 2 ∨ k % 4 = 3 := by omega
      rcases this with e | e | e | e <;> rw [e] <;> rfl)
    rw [show k / 4 * 4 + k % 4 = k by omega] at h2
    rw [h2]
    have h4 : k % 4 = 0 ∨ k % 4 = 1 ∨ k % 4 = 2 ∨ k % 4 = 3 := by omega
    simp [madeCells, hk]
    rcases h4 with e | e | e | e <;> simp [e]
  · rw [List.getElem?_eq_none (by simp [madeCells]; omega), List.getElem?_eq_none (by rw [flat_len encI_len]; simp; omega)]
end Go.Proofs.Ytnefnnhnjmmebaa
