/-
  The walks of slices.Equal at pixels, bitmap.Equal, grisailleref30.Equal.
-/
import Derived.Test.YtnefnnhnjmmebaaBm2
namespace Go.Proofs.Ytnefnnhnjmmebaa
open Go.RowKit
set_option linter.unusedSimpArgs false
set_option linter.unusedVariables false

set_option maxHeartbeats 1600000 in
theorem eqs_any (A A' : Option Addr) (n n' c c' : Nat) (l l' : List Px) (w : World) (hr : RdL encP 4 w A l) (hr' : RdL encP 4 w A' l') (hn : l.length = n) (hn' : l'.length = n') (hn2 : n ≤ 4000000000) (hn2' : n' ≤ 4000000000) (v : Bool) (hv : Hid (v = true ↔ l = l')) :
    Calls Try.prog 78 #[.slice A n c, .slice A' n' c'] w fun e w' => e = .returned (.bool v) ∧ Below w.heap.size w w' := by
  have HR := Lib.hid hr
  have HR' := Lib.hid hr'
  have Hn := Lib.hid hn
  have Hn' := Lib.hid hn'
  have Hv := hv
  clear hr hr' hv
  by_cases hne : n = n'
  · have hnn : ((n : Int) != (n' : Int)) = false := by simp; omega
    have hle : n ≤ n' ∧ n' ≤ n := by omega
    clear hne hn hn'
    go_enter Try.func78, Try.ntmps78
    go_wp2_with fail
    clear hnn
    go_loopw [13] (fun i wr => ∃ k : Nat, k ≤ n ∧ i = .int .i64 k ∧ Below w.heap.size w wr ∧ Hid (∀ j (h : j < l.length) (h' : j < l'.length), j < k → l[j] = l'[j])) (fun i _ => n - (intOf i).toNat)
    case atStart => exact ⟨0, Nat.zero_le _, rfl, (by repeat (first | (with_reducible exact Below.refl _ _) | (with_reducible refine balloc ?_ _) | (with_reducible refine Below.drew ?_) | (with_reducible refine bdrewN ?_ _) | ((with_reducible refine bset ?_ ?_ _); rotate_left; focus (first | (with_reducible exact Nat.le_refl _) | (simp; done) | (simp; omega) | omega)) | (with_reducible refine bstep (by with_reducible assumption) ?_))), (fun j h h' h0 => by omega)⟩
    case round =>
      obtain ⟨k, hk, rfl, hbw, HN⟩ := hrel
      skip
      by_cases hlt : k < n
      · have hkl : k < l.length := by have := Hn.out; omega
        have hkl' : k < l'.length := by have := Hn'.out; omega
        obtain ⟨gb, ob, rfl, hg, hcA⟩ := rdp (HR.out.below hbw) hkl
        obtain ⟨gb', ob', rfl, hg', hcB⟩ := rdp (HR'.out.below hbw) hkl'
        obtain ⟨p, Hp⟩ : ∃ s, Hid (l[k] = s) := ⟨l[k], rfl⟩
        obtain ⟨p', Hp'⟩ : ∃ s, Hid (l'[k] = s) := ⟨l'[k], rfl⟩
        rw [Hp.out] at hcA
        rw [Hp'.out] at hcB
        have QA := Lib.hid hcA
        have QB := Lib.hid hcB
        have i0 : (0 : Int) ≤ (k : Int) := by omega
        have i1 : (k : Int) < (n : Int) := by omega
        have i2 : (k : Int) < (n' : Int) := by omega
        clear hcA hcB
        by_cases he : p = p'
        · have HN' : Hid (∀ j (h : j < l.length) (h' : j < l'.length), j < k + 1 → l[j] = l'[j]) := fun j h h' h0 => by
            by_cases e : j = k
            · subst e; rw [Hp.out, Hp'.out]; exact he
            · exact HN.out j h h' (by omega)
          subst he
          have heq := fun w => (neq_px p p w).trans (by rw [eqP_refl])
          clear HN Hp Hp' hkl hkl'
          go_wp2_with fail
          skip
          refine wp_region_gob 9 [(0, true), (1, true), (2, true), (3, true), (4, true), (5, true), (6, true), (7, true), (8, true)] (by kernel_rfl) (by kernel_rfl) (fun c a d v w h => by cases d <;> exact h) ?_
          repeat (refine wpGo_pure (v := ?_) rfl rfl (fun w' hS => ?_) ?_; rotate_left; (· obtain ⟨q0, q1, q2, q3⟩ := QA.out; have qr0 := (hS.cell (p := ⟨gb, ob + k * 4, none⟩) hg).trans q0; have qr1 := (hS.cell (p := ⟨gb, ob + k * 4 + 1, none⟩) hg).trans q1; have qr2 := (hS.cell (p := ⟨gb, ob + k * 4 + 2, none⟩) hg).trans q2; have qr3 := (hS.cell (p := ⟨gb, ob + k * 4 + 3, none⟩) hg).trans q3; obtain ⟨s0, s1, s2, s3⟩ := QB.out; have sr0 := (hS.cell (p := ⟨gb', ob' + k * 4, none⟩) hg').trans s0; have sr1 := (hS.cell (p := ⟨gb', ob' + k * 4 + 1, none⟩) hg').trans s1; have sr2 := (hS.cell (p := ⟨gb', ob' + k * 4 + 2, none⟩) hg').trans s2; have sr3 := (hS.cell (p := ⟨gb', ob' + k * 4 + 3, none⟩) hg').trans s3; go_simp; exact rfl); (try simp only [Act.put, List.setIfInBounds_toArray, List.set_cons_zero, List.set_cons_succ]))
          refine wpGo_nil ?_
          simp only [List.drop_succ_cons, List.drop_zero]
          clear heq
          go_wp2
          go_roundw
          case rel => exact ⟨k + 1, by omega, by go_num, hbw.drew, HN'⟩
          case measure => simp [intOf]; omega
        · have heq := fun w => (neq_px p p' w).trans (by rw [show eqP p p' = false from by cases h : eqP p p' with | false => rfl | true => exact absurd ((eqP_iff _ _).1 h) he])
          have HE : Hid (v = false) := by
            unfold Hid
            cases hv' : v with
            | false => rfl
            | true =>
              have h1 := Hv.out.1 hv'
              exact absurd (by rw [← Hp.out, ← Hp'.out]; simp [h1]) he
          clear HN Hp Hp' hkl hkl' he
          go_wp2_with fail
          skip
          refine wp_region_gob 9 [(0, true), (1, true), (2, true), (3, true), (4, true), (5, true), (6, true), (7, true), (8, true)] (by kernel_rfl) (by kernel_rfl) (fun c a d v w h => by cases d <;> exact h) ?_
          repeat (refine wpGo_pure (v := ?_) rfl rfl (fun w' hS => ?_) ?_; rotate_left; (· obtain ⟨q0, q1, q2, q3⟩ := QA.out; have qr0 := (hS.cell (p := ⟨gb, ob + k * 4, none⟩) hg).trans q0; have qr1 := (hS.cell (p := ⟨gb, ob + k * 4 + 1, none⟩) hg).trans q1; have qr2 := (hS.cell (p := ⟨gb, ob + k * 4 + 2, none⟩) hg).trans q2; have qr3 := (hS.cell (p := ⟨gb, ob + k * 4 + 3, none⟩) hg).trans q3; obtain ⟨s0, s1, s2, s3⟩ := QB.out; have sr0 := (hS.cell (p := ⟨gb', ob' + k * 4, none⟩) hg').trans s0; have sr1 := (hS.cell (p := ⟨gb', ob' + k * 4 + 1, none⟩) hg').trans s1; have sr2 := (hS.cell (p := ⟨gb', ob' + k * 4 + 2, none⟩) hg').trans s2; have sr3 := (hS.cell (p := ⟨gb', ob' + k * 4 + 3, none⟩) hg').trans s3; go_simp; exact rfl); (try simp only [Act.put, List.setIfInBounds_toArray, List.set_cons_zero, List.set_cons_succ]))
          refine wpGo_nil ?_
          simp only [List.drop_succ_cons, List.drop_zero]
          clear heq
          go_wp2
          go_ret
          rw [HE.out]
          exact ⟨rfl, hbw.drew⟩
      · have HE : Hid (v = true) := by
          refine Hv.out.2 ?_
          have e1 := Hn.out
          have e2 := Hn'.out
          exact List.ext_getElem (by omega) fun j h h' => HN.out j h h' (by omega)
        go_wp2
        go_ret
        rw [HE.out]
        exact ⟨rfl, hbw⟩
  · have hnn : ((n : Int) != (n' : Int)) = true := by simp; omega
    have HE : Hid (v = false) := by
      unfold Hid
      cases hv' : v with
      | false => rfl
      | true => exact absurd (by rw [← hn, ← hn', Hv.out.1 hv']) hne
    clear hne hn hn'
    go_enter Try.func78, Try.ntmps78
    go_wp2
    go_ret
    rw [HE.out]
    exact ⟨rfl, (by repeat (first | (with_reducible exact Below.refl _ _) | (with_reducible refine balloc ?_ _) | (with_reducible refine Below.drew ?_) | (with_reducible refine bdrewN ?_ _) | ((with_reducible refine bset ?_ ?_ _); rotate_left; focus (first | (with_reducible exact Nat.le_refl _) | (simp; done) | (simp; omega) | omega)) | (with_reducible refine bstep (by with_reducible assumption) ?_)))⟩

set_option maxHeartbeats 1600000 in
theorem bequal_any (r r' : Rc) (A A' : Option Addr) (n n' c c' : Nat) (l l' : List Px) (w : World) (hr : RdL encP 4 w A l) (hr' : RdL encP 4 w A' l') (hn : l.length = n) (hn' : l'.length = n') (hn2 : n ≤ 4000000000) (hn2' : n' ≤ 4000000000) (v : Bool) (hv : Hid (v = true ↔ r = r' ∧ l = l')) :
    Calls Try.prog 35 #[.agg #[.int .i64 r.x0, .int .i64 r.y0, .int .i64 r.x1, .int .i64 r.y1, .slice A n c], .agg #[.int .i64 r'.x0, .int .i64 r'.y0, .int .i64 r'.x1, .int .i64 r'.y1, .slice A' n' c']] w fun e w' => e = .returned (.bool v) ∧ Below w.heap.size w w' := by
  have HR := Lib.hid hr
  have HR' := Lib.hid hr'
  have Hn := Lib.hid hn
  have Hn' := Lib.hid hn'
  obtain ⟨b, Hb⟩ : ∃ b, Hid (eqB r r' = b) := ⟨_, rfl⟩
  have heq := fun w => (eql_rect r.x0 r.y0 r.x1 r.y1 r'.x0 r'.y0 r'.x1 r'.y1 w).trans (by rw [show eqB ⟨r.x0, r.y0, r.x1, r.y1⟩ ⟨r'.x0, r'.y0, r'.x1, r'.y1⟩ = b from Hb.out])
  clear hr hr' hn hn'
  cases b with
  | true =>
    have hv' : Hid (v = true ↔ l = l') := by
      have h1 : r = r' := (eqB_iff _ _).1 Hb.out
      exact ⟨fun h => (hv.out.1 h).2, fun h => hv.out.2 ⟨h1, h⟩⟩
    clear hv
    go_enter Try.func35, Try.ntmps35
    go_wp2_with fail
    refine (eqs_any A A' n n' c c' l l' _ (HR.out.below (by repeat (first | (with_reducible exact Below.refl _ _) | (with_reducible refine balloc ?_ _) | (with_reducible refine Below.drew ?_) | (with_reducible refine bdrewN ?_ _) | ((with_reducible refine bset ?_ ?_ _); rotate_left; focus (first | (with_reducible exact Nat.le_refl _) | (simp; done) | (simp; omega) | omega)) | (with_reducible refine bstep (by with_reducible assumption) ?_)))) (HR'.out.below (by repeat (first | (with_reducible exact Below.refl _ _) | (with_reducible refine balloc ?_ _) | (with_reducible refine Below.drew ?_) | (with_reducible refine bdrewN ?_ _) | ((with_reducible refine bset ?_ ?_ _); rotate_left; focus (first | (with_reducible exact Nat.le_refl _) | (simp; done) | (simp; omega) | omega)) | (with_reducible refine bstep (by with_reducible assumption) ?_)))) Hn.out Hn'.out hn2 hn2' v hv').mono ?_
    rintro e w1 ⟨rfl, hb1⟩
    go_wp2
    go_ret
    exact ⟨rfl, (by repeat (first | (with_reducible exact Below.refl _ _) | (with_reducible refine balloc ?_ _) | (with_reducible refine Below.drew ?_) | (with_reducible refine bdrewN ?_ _) | ((with_reducible refine bset ?_ ?_ _); rotate_left; focus (first | (with_reducible exact Nat.le_refl _) | (simp; done) | (simp; omega) | omega)) | (with_reducible refine bstep (by with_reducible assumption) ?_)))⟩
  | false =>
    have HE : Hid (v = false) := by
      unfold Hid
      cases h' : v with
      | false => rfl
      | true =>
        have h1 := (hv.out.1 h').1
        subst h1
        have := Hb.out
        rw [eqB_refl] at this
        cases this
    clear hv
    rw [HE.out]
    go_enter Try.func35, Try.ntmps35
    go_wp2
    go_ret
    exact ⟨rfl, (by repeat (first | (with_reducible exact Below.refl _ _) | (with_reducible refine balloc ?_ _) | (with_reducible refine Below.drew ?_) | (with_reducible refine bdrewN ?_ _) | ((with_reducible refine bset ?_ ?_ _); rotate_left; focus (first | (with_reducible exact Nat.le_refl _) | (simp; done) | (simp; omega) | omega)) | (with_reducible refine bstep (by with_reducible assumption) ?_)))⟩

set_option maxHeartbeats 1600000 in
theorem requal_any (r r' : Rc) (A A' : Option Addr) (n n' c c' : Nat) (l l' : List Px) (w : World) (hr : RdL encP 4 w A l) (hr' : RdL encP 4 w A' l') (hn : l.length = n) (hn' : l'.length = n') (hn2 : n ≤ 4000000000) (hn2' : n' ≤ 4000000000) (v : Bool) (hv : Hid (v = true ↔ r = r' ∧ l = l')) :
    Calls Try.prog 15 #[.agg #[.int .i64 r.x0, .int .i64 r.y0, .int .i64 r.x1, .int .i64 r.y1, .slice A n c], .agg #[.int .i64 r'.x0, .int .i64 r'.y0, .int .i64 r'.x1, .int .i64 r'.y1, .slice A' n' c']] w fun e w' => e = .returned (.bool v) ∧ Below w.heap.size w w' := by
  have HR := Lib.hid hr
  have HR' := Lib.hid hr'
  have Hn := Lib.hid hn
  have Hn' := Lib.hid hn'
  obtain ⟨b, Hb⟩ : ∃ b, Hid (eqB r r' = b) := ⟨_, rfl⟩
  have hneq := fun w => (neq_rect r.x0 r.y0 r.x1 r.y1 r'.x0 r'.y0 r'.x1 r'.y1 w).trans (by rw [show eqB ⟨r.x0, r.y0, r.x1, r.y1⟩ ⟨r'.x0, r'.y0, r'.x1, r'.y1⟩ = b from Hb.out])
  have Hv := hv
  clear hr hr' hn hn' hv
  cases b with
  | true =>
    have HR1 : Hid (r = r') := (eqB_iff _ _).1 Hb.out
    by_cases hne : n = n'
    · have hnn : ((n : Int) != (n' : Int)) = false := by simp; omega
      have hle : n ≤ n' ∧ n' ≤ n := by omega
      clear hne
      go_enter Try.func15, Try.ntmps15
      go_wp2_with fail
      clear hneq hnn
      go_loopw [5] (fun i wr => ∃ k : Nat, k ≤ n ∧ i = .int .i64 k ∧ Below w.heap.size w wr ∧ Hid (∀ j (h : j < l.length) (h' : j < l'.length), j < k → l[j] = l'[j]) ∧ Bk wr w.heap.size 28 #[.int .i64 r.x0, .int .i64 r.y0, .int .i64 r.x1, .int .i64 r.y1, .slice A n c] ∧ Bk wr (w.heap.size + 1) 28 #[.int .i64 r'.x0, .int .i64 r'.y0, .int .i64 r'.x1, .int .i64 r'.y1, .slice A' n' c']) (fun i _ => n - (intOf i).toNat)
      case atStart => exact ⟨0, Nat.zero_le _, rfl, (by repeat (first | (with_reducible exact Below.refl _ _) | (with_reducible refine balloc ?_ _) | (with_reducible refine Below.drew ?_) | (with_reducible refine bdrewN ?_ _) | ((with_reducible refine bset ?_ ?_ _); rotate_left; focus (first | (with_reducible exact Nat.le_refl _) | (simp; done) | (simp; omega) | omega)) | (with_reducible refine bstep (by with_reducible assumption) ?_))), (fun j h h' h0 => by omega), (by repeat (first | (with_reducible assumption) | ((with_reducible refine Bk.new _ _ _ ?_); first | (with_reducible rfl) | (simp; done)) | (with_reducible refine Bk.alloc ?_ _) | (with_reducible refine Bk.drew ?_) | (with_reducible refine Bk.drewN ?_ _) | ((with_reducible refine Bk.far ?_ ?_ _); rotate_left; focus (first | (simp; done) | (simp; omega))) | (with_reducible refine Bk.below ?_ (by with_reducible assumption)))), (by repeat (first | (with_reducible assumption) | ((with_reducible refine Bk.new _ _ _ ?_); first | (with_reducible rfl) | (simp; done)) | (with_reducible refine Bk.alloc ?_ _) | (with_reducible refine Bk.drew ?_) | (with_reducible refine Bk.drewN ?_ _) | ((with_reducible refine Bk.far ?_ ?_ _); rotate_left; focus (first | (simp; done) | (simp; omega))) | (with_reducible refine Bk.below ?_ (by with_reducible assumption))))⟩
      case round =>
        obtain ⟨k, hk, rfl, hbw, HN, kC, kD⟩ := hrel
        obtain ⟨kc, kf, ka, kg, kl⟩ := kC.rules
        obtain ⟨kc', kf', ka', kg', kl'⟩ := kD.rules
        by_cases hlt : k < n
        · have hkl : k < l.length := by have := Hn.out; omega
          have hkl' : k < l'.length := by have := Hn'.out; omega
          obtain ⟨gb, ob, rfl, hg, hcA⟩ := rdp (HR.out.below hbw) hkl
          obtain ⟨gb', ob', rfl, hg', hcB⟩ := rdp (HR'.out.below hbw) hkl'
          obtain ⟨p, Hp⟩ : ∃ s, Hid (l[k] = s) := ⟨l[k], rfl⟩
          obtain ⟨p', Hp'⟩ : ∃ s, Hid (l'[k] = s) := ⟨l'[k], rfl⟩
          rw [Hp.out] at hcA
          rw [Hp'.out] at hcB
          have QA := Lib.hid hcA
          have QB := Lib.hid hcB
          have i0 : (0 : Int) ≤ (k : Int) := by omega
          have i1 : (k : Int) < (n : Int) := by omega
          have i2 : (k : Int) < (n' : Int) := by omega
          clear hcA hcB
          by_cases he : p = p'
          · have HN' : Hid (∀ j (h : j < l.length) (h' : j < l'.length), j < k + 1 → l[j] = l'[j]) := fun j h h' h0 => by
              by_cases e : j = k
              · subst e; rw [Hp.out, Hp'.out]; exact he
              · exact HN.out j h h' (by omega)
            subst he
            have heq := fun w => (neq_px p p w).trans (by rw [eqP_refl])
            clear HN Hp Hp' hkl hkl'
            go_wp2_with fail
            clear kc kf ka kg kc' kf' ka' kg'
            refine wp_region_gob 11 [(0, true), (1, true), (2, true), (3, true), (4, true), (5, true), (6, true), (7, true), (8, true), (9, true), (10, true)] (by kernel_rfl) (by kernel_rfl) (fun c a d v w h => by cases d <;> exact h) ?_
            repeat (refine wpGo_pure (v := ?_) rfl rfl (fun w' hS => ?_) ?_; rotate_left; (· obtain ⟨q0, q1, q2, q3⟩ := QA.out; have qr0 := (hS.cell (p := ⟨gb, ob + k * 4, none⟩) hg).trans q0; have qr1 := (hS.cell (p := ⟨gb, ob + k * 4 + 1, none⟩) hg).trans q1; have qr2 := (hS.cell (p := ⟨gb, ob + k * 4 + 2, none⟩) hg).trans q2; have qr3 := (hS.cell (p := ⟨gb, ob + k * 4 + 3, none⟩) hg).trans q3; obtain ⟨s0, s1, s2, s3⟩ := QB.out; have sr0 := (hS.cell (p := ⟨gb', ob' + k * 4, none⟩) hg').trans s0; have sr1 := (hS.cell (p := ⟨gb', ob' + k * 4 + 1, none⟩) hg').trans s1; have sr2 := (hS.cell (p := ⟨gb', ob' + k * 4 + 2, none⟩) hg').trans s2; have sr3 := (hS.cell (p := ⟨gb', ob' + k * 4 + 3, none⟩) hg').trans s3; have jC := kC.below hS; have jD := kD.below hS; obtain ⟨kc, kf, ka, kg, kl⟩ := jC.rules; obtain ⟨kc', kf', ka', kg', kl'⟩ := jD.rules; go_simp; exact rfl); (try simp only [Act.put, List.setIfInBounds_toArray, List.set_cons_zero, List.set_cons_succ]))
            refine wpGo_nil ?_
            simp only [List.drop_succ_cons, List.drop_zero]
            clear heq
            go_wp2
            go_roundw
            case rel => exact ⟨k + 1, by omega, by go_num, hbw.drew, HN', kC.drew, kD.drew⟩
            case measure => simp [intOf]; omega
          · have heq := fun w => (neq_px p p' w).trans (by rw [show eqP p p' = false from by cases h : eqP p p' with | false => rfl | true => exact absurd ((eqP_iff _ _).1 h) he])
            have HE : Hid (v = false) := by
              unfold Hid
              cases hv' : v with
              | false => rfl
              | true =>
                have h1 := Hv.out.1 hv'
                exact absurd (by rw [← Hp.out, ← Hp'.out]; simp [h1.2]) he
            clear HN Hp Hp' hkl hkl' he
            go_wp2_with fail
            clear kc kf ka kg kc' kf' ka' kg'
            refine wp_region_gob 11 [(0, true), (1, true), (2, true), (3, true), (4, true), (5, true), (6, true), (7, true), (8, true), (9, true), (10, true)] (by kernel_rfl) (by kernel_rfl) (fun c a d v w h => by cases d <;> exact h) ?_
            repeat (refine wpGo_pure (v := ?_) rfl rfl (fun w' hS => ?_) ?_; rotate_left; (· obtain ⟨q0, q1, q2, q3⟩ := QA.out; have qr0 := (hS.cell (p := ⟨gb, ob + k * 4, none⟩) hg).trans q0; have qr1 := (hS.cell (p := ⟨gb, ob + k * 4 + 1, none⟩) hg).trans q1; have qr2 := (hS.cell (p := ⟨gb, ob + k * 4 + 2, none⟩) hg).trans q2; have qr3 := (hS.cell (p := ⟨gb, ob + k * 4 + 3, none⟩) hg).trans q3; obtain ⟨s0, s1, s2, s3⟩ := QB.out; have sr0 := (hS.cell (p := ⟨gb', ob' + k * 4, none⟩) hg').trans s0; have sr1 := (hS.cell (p := ⟨gb', ob' + k * 4 + 1, none⟩) hg').trans s1; have sr2 := (hS.cell (p := ⟨gb', ob' + k * 4 + 2, none⟩) hg').trans s2; have sr3 := (hS.cell (p := ⟨gb', ob' + k * 4 + 3, none⟩) hg').trans s3; have jC := kC.below hS; have jD := kD.below hS; obtain ⟨kc, kf, ka, kg, kl⟩ := jC.rules; obtain ⟨kc', kf', ka', kg', kl'⟩ := jD.rules; go_simp; exact rfl); (try simp only [Act.put, List.setIfInBounds_toArray, List.set_cons_zero, List.set_cons_succ]))
            refine wpGo_nil ?_
            simp only [List.drop_succ_cons, List.drop_zero]
            clear heq
            go_wp2
            go_ret
            rw [HE.out]
            exact ⟨rfl, hbw.drew⟩
        · have HE : Hid (v = true) := by
            refine Hv.out.2 ?_
            have e1 := Hn.out
            have e2 := Hn'.out
            exact ⟨HR1.out, List.ext_getElem (by omega) fun j h h' => HN.out j h h' (by omega)⟩
          go_wp2
          go_ret
          rw [HE.out]
          exact ⟨rfl, hbw⟩
    · have hnn : ((n : Int) != (n' : Int)) = true := by simp; omega
      have HE : Hid (v = false) := by
        unfold Hid
        cases hv' : v with
        | false => rfl
        | true => exact absurd (by rw [← Hn.out, ← Hn'.out, (Hv.out.1 hv').2]) hne
      clear hne
      go_enter Try.func15, Try.ntmps15
      go_wp2
      go_ret
      rw [HE.out]
      exact ⟨rfl, (by repeat (first | (with_reducible exact Below.refl _ _) | (with_reducible refine balloc ?_ _) | (with_reducible refine Below.drew ?_) | (with_reducible refine bdrewN ?_ _) | ((with_reducible refine bset ?_ ?_ _); rotate_left; focus (first | (with_reducible exact Nat.le_refl _) | (simp; done) | (simp; omega) | omega)) | (with_reducible refine bstep (by with_reducible assumption) ?_)))⟩
  | false =>
    have HE : Hid (v = false) := by
      unfold Hid
      cases h' : v with
      | false => rfl
      | true =>
        have h1 := (Hv.out.1 h').1
        subst h1
        have := Hb.out
        rw [eqB_refl] at this
        cases this
    clear Hv
    rw [HE.out]
    go_enter Try.func15, Try.ntmps15
    go_wp2
    go_ret
    exact ⟨rfl, (by repeat (first | (with_reducible exact Below.refl _ _) | (with_reducible refine balloc ?_ _) | (with_reducible refine Below.drew ?_) | (with_reducible refine bdrewN ?_ _) | ((with_reducible refine bset ?_ ?_ _); rotate_left; focus (first | (with_reducible exact Nat.le_refl _) | (simp; done) | (simp; omega) | omega)) | (with_reducible refine bstep (by with_reducible assumption) ?_)))⟩
end Go.Proofs.Ytnefnnhnjmmebaa
