/- What both sides say of a tree is the same. -/
import Derived.Test.YthceepaoikcceaaH
namespace Go.Al
open Go.Proofs
set_option linter.unusedVariables false
/-! ### What both sides say of a tree is the same -/
def fl (b : Nat → Bool) : Nat → Nat → Int → Int
  | _, 0, f => f
  | k, n + 1, f => fl b (k + 1) n (if b k = true ∧ f < 0 then (k : Int) else f)
theorem fl_none {b : Nat → Bool} : ∀ {n k : Nat} {f : Int}, (∀ j, k ≤ j → j < k + n → b j = false) → fl b k n f = f
  | 0, _, _, _ => rfl
  | n + 1, k, f, h => by
    unfold fl
    rw [h k (Nat.le_refl _) (by omega), if_neg (by simp)]
    exact fl_none fun j h1 h2 => h j (by omega) (by omega)
theorem fl_add {b : Nat → Bool} : ∀ {m n k : Nat} {f : Int}, fl b k (m + n) f = fl b (k + m) n (fl b k m f)
  | 0, n, k, f => by rw [Nat.zero_add]; rfl
  | m + 1, n, k, f => by
    rw [show m + 1 + n = (m + n) + 1 by omega]
    show fl b (k + 1) (m + n) _ = fl b (k + (m + 1)) n (fl b (k + 1) m _)
    rw [fl_add, show k + 1 + m = k + (m + 1) by omega]
theorem fl_snoc {b : Nat → Bool} {n k : Nat} {f : Int} : fl b k (n + 1) f = if b (k + n) = true ∧ fl b k n f < 0 then ((k + n : Nat) : Int) else fl b k n f := by
  rw [fl_add]; rfl
/-- The equations of the reference's lists. -/
structure Eqs (p : List Nd) (c0 : List Tm) (H : Nat → Bool) (A : Nat → List Tm) (R : Nat → Bool) : Prop where
  h0 : 0 < p.length → H 0 = true ∧ A 0 = c0
  h : ∀ j, 0 < j → j < p.length → H j = R (par p j j).1.toNat
  a : ∀ j, 0 < j → j < p.length → H j = true → A j = belowS (p.getD (par p j j).1.toNat default) (A (par p j j).1.toNat) (par p j j).2
  r : ∀ j, j < p.length → R j = (H j && rightB (p.getD j default) (A j))
theorem csRun_pre {p : List Nd} {c0 : List Tm} (hp : isB p = true) (h0 : CtxOk c0) {n : Nat} : ∀ {m : Nat}, n ≤ m → m ≤ p.length → ∀ j, j < n →
    (csRun p c0 m).all.getD j default = (csRun p c0 n).all.getD j default ∧ (csRun p c0 m).has.getD j default = (csRun p c0 n).has.getD j default ∧ (csRun p c0 m).right.getD j default = (csRun p c0 n).right.getD j default
  | 0, h, _, j, hj => by omega
  | m + 1, h, hm, j, hj => by
    by_cases e : n = m + 1
    · subst e; exact ⟨rfl, rfl, rfl⟩
    · have ih := csRun_pre hp h0 (n := n) (m := m) (by omega) (by omega) j hj
      have hz := csRun_ok (c0 := c0) hp h0 (k := m) (by omega)
      show ((csRun p c0 m).all ++ [_]).getD j default = _ ∧ ((csRun p c0 m).has ++ [_]).getD j default = _ ∧ ((csRun p c0 m).right ++ [_]).getD j default = _
      rw [getD_snoc, getD_snoc, getD_snoc, hz.all, hz.has, hz.right, if_neg (by omega), if_neg (by omega), if_neg (by omega)]
      exact ih
theorem csRun_at {p : List Nd} {c0 : List Tm} (hp : isB p = true) (h0 : CtxOk c0) {j : Nat} (hj : j < p.length) :
    (csRun p c0 p.length).all.getD j default = ownF p c0 j (csRun p c0 j) ∧ (csRun p c0 p.length).has.getD j default = fineF p j (csRun p c0 j) ∧ (csRun p c0 p.length).right.getD j default = rightF p c0 j (csRun p c0 j) := by
  have h1 := csRun_pre (c0 := c0) hp h0 (n := j + 1) (m := p.length) (by omega) (Nat.le_refl _) j (by omega)
  have hz := csRun_ok (c0 := c0) hp h0 (k := j) (by omega)
  rw [h1.1, h1.2.1, h1.2.2]
  show ((csRun p c0 j).all ++ [_]).getD j default = _ ∧ ((csRun p c0 j).has ++ [_]).getD j default = _ ∧ ((csRun p c0 j).right ++ [_]).getD j default = _
  rw [getD_snoc, getD_snoc, getD_snoc, hz.all, hz.has, hz.right, if_pos rfl, if_pos rfl, if_pos rfl]
  exact ⟨rfl, rfl, rfl⟩
theorem csRun_eqs {p : List Nd} {c0 : List Tm} (hp : isB p = true) (h0 : CtxOk c0) :
    Eqs p c0 (fun j => (csRun p c0 p.length).has.getD j default) (fun j => (csRun p c0 p.length).all.getD j default) (fun j => (csRun p c0 p.length).right.getD j default) := by
  refine ⟨fun h => ?_, fun j hj0 hj => ?_, fun j hj0 hj hH => ?_, fun j hj => ?_⟩
  · have := csRun_at (c0 := c0) hp h0 h
    exact ⟨this.2.1, this.1⟩
  · have h1 := csRun_at (c0 := c0) hp h0 hj
    obtain ⟨a, ha, hak⟩ := par_in hp hj0 hj
    have h2 := csRun_pre (c0 := c0) hp h0 (n := j) (m := p.length) (by omega) (Nat.le_refl _) a hak
    show (csRun p c0 p.length).has.getD j default = _
    rw [h1.2.1, fineF, if_neg (by omega)]
    show _ = (csRun p c0 p.length).right.getD _ default
    rw [ha, Int.toNat_natCast, h2.2.2]
  · have h1 := csRun_at (c0 := c0) hp h0 hj
    obtain ⟨a, ha, hak⟩ := par_in hp hj0 hj
    have h2 := csRun_pre (c0 := c0) hp h0 (n := j) (m := p.length) (by omega) (Nat.le_refl _) a hak
    have hH : (csRun p c0 p.length).has.getD j default = true := hH
    show (csRun p c0 p.length).all.getD j default = _
    rw [h1.1, ownF, if_neg (by omega), if_pos (by rw [← h1.2.1]; exact hH)]
    show _ = belowS _ ((csRun p c0 p.length).all.getD _ default) _
    rw [ha, Int.toNat_natCast, h2.1]
  · have h1 := csRun_at (c0 := c0) hp h0 hj
    show (csRun p c0 p.length).right.getD j default = _
    rw [h1.2.2, rightF, ← h1.1, ← h1.2.1]
theorem csRun_flaw {p : List Nd} {c0 : List Tm} (hp : isB p = true) (h0 : CtxOk c0) : ∀ {n : Nat}, n ≤ p.length →
    (csRun p c0 n).flaw = fl (fun j => (csRun p c0 p.length).has.getD j default && !(csRun p c0 p.length).right.getD j default) 0 n (-1)
  | 0, _ => rfl
  | n + 1, hn => by
    have h1 := csRun_at (c0 := c0) hp h0 (show n < p.length by omega)
    rw [fl_snoc, ← csRun_flaw hp h0 (n := n) (by omega), Nat.zero_add, h1.2.1, h1.2.2]
    show (if ((fineF p n (csRun p c0 n) && !rightF p c0 n (csRun p c0 n)) && decide ((csRun p c0 n).flaw < 0)) = true then (n : Int) else (csRun p c0 n).flaw) = _
    simp only [Bool.and_eq_true, decide_eq_true_eq]
/-! ### Parents in a tree -/
theorem Pf.At.nested {p : List Nd} : ∀ {t : Pf} {k i : Nat}, t.At p k → k ≤ i → i < k + t.size → Al.endP p i ≤ ((k + t.size : Nat) : Int)
  | .close x, k, i, h, h1, h2 => by
    simp only [Pf.size] at h2
    obtain rfl : i = k := by omega
    rw [h.endP]; omega
  | .tight x a, k, i, h, h1, h2 => by
    by_cases e : i = k
    · subst e; rw [h.endP]; omega
    · simp only [Pf.size] at h2 ⊢
      have := h.2.2.2.nested (i := i) (by omega) (by omega)
      omega
  | .split x a b, k, i, h, h1, h2 => by
    by_cases e : i = k
    · subst e; rw [h.endP]; omega
    · simp only [Pf.size] at h2 ⊢
      by_cases e2 : i < k + 1 + a.size
      · have := h.2.2.2.1.nested (i := i) (by omega) (by omega)
        omega
      · have := h.2.2.2.2.nested (i := i) (by omega) (by omega)
        omega
theorem par_skip {p : List Nd} {k lo : Nat} : ∀ {hi : Nat}, lo ≤ hi → (∀ i, lo ≤ i → i < hi → Al.endP p i ≤ k) → par p k hi = par p k lo
  | 0, h, _ => by obtain rfl : lo = 0 := by omega
                  rfl
  | hi + 1, h, hs => by
    by_cases e : lo = hi + 1
    · rw [e]
    · rw [par, if_pos (.inr (hs hi (by omega) (by omega)))]
      exact par_skip (by omega) fun i h1 h2 => hs i h1 (by omega)
theorem par_first {p : List Nd} {k : Nat} (hk : (p.getD k default).kind ≠ 1) (he : ((k + 1 : Nat) : Int) < Al.endP p k) : par p (k + 1) (k + 1) = ((k : Int), true) := by
  rw [par, if_neg (by rintro (h | h); exact hk h; omega)]
  simp
theorem par_second {p : List Nd} {k m : Nat} (hm : 0 < m) (hk : (p.getD k default).kind ≠ 1) (he : ((k + 1 + m : Nat) : Int) < Al.endP p k) (hs : ∀ i, k + 1 ≤ i → i < k + 1 + m → Al.endP p i ≤ ((k + 1 + m : Nat) : Int)) : par p (k + 1 + m) (k + 1 + m) = ((k : Int), false) := by
  rw [par_skip (lo := k + 1) (by omega) hs, par, if_neg (by rintro (h | h); exact hk h; omega)]
  simp; omega
/-- Below a node that is not right nothing is right. -/
theorem Pf.At.dead {p : List Nd} {c0 H A R} (E : Eqs p c0 H A R) : ∀ {t : Pf} {k : Nat}, t.At p k → H k = false → ∀ j, k ≤ j → j < k + t.size → H j = false
  | .close x, k, h, hk, j, h1, h2 => by
    simp only [Pf.size] at h2
    obtain rfl : j = k := by omega
    exact hk
  | .tight x a, k, h, hk, j, h1, h2 => by
    by_cases e : j = k
    · subst e; exact hk
    · have hl := h.le
      have hp := Pf.size_pos (t := a)
      simp only [Pf.size] at h2 hl
      have hpar := par_first (p := p) (k := k) (by rw [(get_some h.1).2, h.2.2.1]; decide) (by rw [h.endP]; simp only [Pf.size]; omega)
      refine h.2.2.2.dead E ?_ j (by omega) (by omega)
      rw [E.h (k + 1) (by omega) (by omega), hpar, Int.toNat_natCast, E.r k (by omega), hk]; rfl
  | .split x a b, k, h, hk, j, h1, h2 => by
    by_cases e : j = k
    · subst e; exact hk
    · have hl := h.le
      have hp := Pf.size_pos (t := a)
      have hq := Pf.size_pos (t := b)
      simp only [Pf.size] at h2 hl
      have hkk : (p.getD k default).kind ≠ 1 := by rw [(get_some h.1).2, h.2.2.1]; decide
      have hend : Al.endP p k = ((k + 1 + a.size + b.size : Nat) : Int) := by rw [h.endP]; simp only [Pf.size]; omega
      have hpar := par_first (p := p) (k := k) hkk (by rw [hend]; omega)
      have hpar2 := par_second (p := p) (k := k) (m := a.size) hp hkk (by rw [hend]; omega) (fun i h1 h2 => h.2.2.2.1.nested h1 h2)
      have hr : R k = false := by rw [E.r k (by omega), hk]; rfl
      by_cases e2 : j < k + 1 + a.size
      · refine h.2.2.2.1.dead E ?_ j (by omega) (by omega)
        rw [E.h (k + 1) (by omega) (by omega), hpar, Int.toNat_natCast, hr]
      · refine h.2.2.2.2.dead E ?_ j (by omega) (by omega)
        rw [E.h (k + 1 + a.size) (by omega) (by omega), hpar2, Int.toNat_natCast, hr]
theorem right2 {n : Nd} {c : List Tm} (h : n.kind = 2) : rightB n c = splitI n c := by
  unfold rightB splitI
  rw [if_neg (by omega), opp_2]
  by_cases h1 : 20 ≤ c.length
  · rw [if_pos h1, decide_eq_false (by omega), Bool.false_and]
  · rw [if_neg h1, if_pos h, decide_eq_true (by omega), Bool.true_and]
theorem right3 {n : Nd} {c : List Tm} (hn : ndB n = true) (h : n.kind = 3) (hc : CtxOk c) : rightB n c = (factI n c && (tiF n c).2) := by
  have hf := ndB_fact hn
  unfold rightB factI tiF inB
  rw [if_neg (by omega)]
  by_cases h1 : 20 ≤ c.length
  · rw [if_pos h1, decide_eq_false (show ¬ (c.length : Int) < 20 by omega), Bool.false_and, Bool.false_and]
  · rw [if_neg h1, if_neg (by omega), decide_eq_true (show (c.length : Int) < 20 by omega), Bool.true_and, decide_eq_true hf, Bool.true_and]
    by_cases h2 : n.fact ≥ c.length
    · rw [if_pos h2, decide_eq_false (by omega), Bool.false_and]
    · rw [if_neg h2, decide_eq_true (by omega), Bool.true_and, tight_eq (hc.get (by omega))]
theorem fl_bad {b : Nat → Bool} {n k : Nat} {f : Int} (hk : b k = true) (h : ∀ j, k < j → j < k + (n + 1) → b j = false) : fl b k (n + 1) f = if f < 0 then (k : Int) else f := by
  unfold fl
  rw [fl_none fun j h1 h2 => h j (by omega) (by omega)]
  simp [hk]
theorem fl_good {b : Nat → Bool} {n k : Nat} {f : Int} (hk : b k = false) : fl b k (n + 1) f = fl b (k + 1) n f := by
  rw [fl, if_neg (by simp [hk])]
def tabl (H : Nat → Bool) (A : Nat → List Tm) (j : Nat) : Option (List Tm) := if H j = true then some (A j) else none
/-- The examination of a subproof whose context is known. -/
theorem Pf.At.exam {p : List Nd} {c0 H A R} (E : Eqs p c0 H A R) : ∀ {t : Pf} {k : Nat} {e : Ex}, t.At p k → H k = true → CtxOk (A k) → (∀ j, k ≤ j → j < k + t.size → tget e.es j = none) →
    (exT t k (A k) e).flaw = fl (fun j => H j && !R j) k t.size e.flaw ∧ ∀ j : Nat, tget (exT t k (A k) e).es j = if k ≤ j ∧ j < k + t.size then tabl H A j else tget e.es j
  | .close x, k, e, h, hk, hc, hn => by
    obtain ⟨hl, hg⟩ := get_some h.1
    have hr : R k = closesI (A k) x.mul := by rw [E.r k hl, hk, hg, rightB, if_pos h.2.2, Bool.true_and, closes_eq]
    have hes : ∀ j : Nat, tget (e.put k (A k)).es j = if k ≤ j ∧ j < k + 1 then tabl H A j else tget e.es j := fun j => by
      show tget (tput e.es k (A k)) j = _
      rw [tget_put]
      by_cases e1 : j = k
      · subst e1; rw [if_pos rfl, if_pos (by omega), tabl, if_pos hk]
      · rw [if_neg (by omega), if_neg (by omega)]
    unfold exT
    cases hcl : closesI (A k) x.mul with
    | true =>
      rw [if_pos rfl]
      refine ⟨?_, hes⟩
      show e.flaw = _
      rw [Pf.size, fl_none fun j h1 h2 => by obtain rfl : j = k := by omega
                                             rw [hr, hcl]; simp]
    | false =>
      rw [if_neg (by decide)]
      have hb : (fun j => H j && !R j) k = true := by show (H k && !R k) = true; rw [hk, hr, hcl]; rfl
      refine ⟨?_, fun j => ?_⟩
      · show ((e.put k (A k)).bad k).flaw = fl _ k (0 + 1) _
        rw [fl_bad hb (fun j h1 h2 => by omega)]
        unfold Ex.bad
        show (if e.flaw < 0 then _ else _ : Ex).flaw = _
        split <;> rfl
      · rw [Pf.size, ← hes j]
        unfold Ex.bad
        split <;> rfl
  | .tight x a, k, e, h, hk, hc, hn => by
    obtain ⟨hl, hg⟩ := get_some h.1
    have hll := h.le
    have hp := Pf.size_pos (t := a)
    simp only [Pf.size] at hll hn
    have hr : R k = (factI x (A k) && (tiF x (A k)).2) := by rw [E.r k hl, hk, hg, right3 h.2.1 h.2.2.1 hc, Bool.true_and]
    have hpar := par_first (p := p) (k := k) (by rw [hg, h.2.2.1]; decide) (by rw [h.endP]; simp only [Pf.size]; omega)
    have hH1 : H (k + 1) = R k := by rw [E.h (k + 1) (by omega) (by omega), hpar, Int.toNat_natCast]
    have hput : ∀ j : Nat, tget (e.put k (A k)).es j = if j = k then some (A k) else tget e.es j := fun j => by
      show tget (tput e.es k (A k)) j = _
      rw [tget_put]
      by_cases e1 : j = k
      · rw [if_pos e1, if_pos (by omega)]
      · rw [if_neg (by omega), if_neg e1]
    unfold exT
    cases hcl : (factI x (A k) && (tiF x (A k)).2) with
    | true =>
      rw [hcl] at hr
      rw [if_pos rfl]
      rw [hr] at hH1
      have hcl' := hcl
      simp only [factI, inB, Bool.and_eq_true, decide_eq_true_eq] at hcl'
      have hA1 : A (k + 1) = A k ++ [(tiF x (A k)).1] := by
        rw [E.a (k + 1) (by omega) (by omega) hH1, hpar, Int.toNat_natCast, hg, belowS, if_pos h.2.2.1]
        unfold tiF
        rw [tight_eq (hc.get (by omega))]
      have htok : (tiF x (A k)).1.ok = true := by
        have h9 := hcl'.2
        unfold tiF at h9 ⊢
        rw [tight_eq (hc.get (by omega))] at h9 ⊢
        exact tightS_ok h9
      have ih := h.2.2.2.exam E (e := e.put k (A k)) hH1 (by rw [hA1]; exact hc.snoc htok hcl'.1.1) (fun j h1 h2 => by rw [hput, if_neg (by omega)]; exact hn j (by omega) (by omega))
      rw [hA1] at ih
      refine ⟨?_, fun j => ?_⟩
      · rw [ih.1, Pf.size, Nat.add_comm 1, fl_good (by show (H k && !R k) = false; rw [hr]; simp)]
        rfl
      · rw [ih.2 j, hput j, Pf.size]
        by_cases e1 : j = k
        · subst e1; rw [if_neg (by omega), if_pos rfl, if_pos (by omega), tabl, if_pos hk]
        · by_cases e2 : k + 1 ≤ j ∧ j < k + 1 + a.size
          · rw [if_pos e2, if_pos (by omega)]
          · rw [if_neg e2, if_neg e1, if_neg (by omega)]
    | false =>
      rw [hcl] at hr
      rw [if_neg (by decide)]
      rw [hr] at hH1
      have hd := h.2.2.2.dead E hH1
      have hb : (fun j => H j && !R j) k = true := by show (H k && !R k) = true; rw [hk, hr]; rfl
      refine ⟨?_, fun j => ?_⟩
      · rw [Pf.size, Nat.add_comm 1, fl_bad hb (fun j h1 h2 => by show (H j && !R j) = false; rw [hd j (by omega) (by omega)]; rfl)]
        unfold Ex.bad
        show (if e.flaw < 0 then _ else _ : Ex).flaw = _
        split <;> rfl
      · have : tget ((e.put k (A k)).bad k).es j = tget (e.put k (A k)).es j := by unfold Ex.bad; split <;> rfl
        rw [this, hput j, Pf.size]
        by_cases e1 : j = k
        · subst e1; rw [if_pos rfl, if_pos (by omega), tabl, if_pos hk]
        · rw [if_neg e1]
          by_cases e2 : k ≤ j ∧ j < k + (1 + a.size)
          · rw [if_pos e2, tabl, hd j (by omega) (by omega), if_neg (by decide)]
            exact hn j e2.1 (by omega)
          · rw [if_neg e2]
  | .split x a b, k, e, h, hk, hc, hn => by
    obtain ⟨hl, hg⟩ := get_some h.1
    have hll := h.le
    have hp := Pf.size_pos (t := a)
    have hq := Pf.size_pos (t := b)
    simp only [Pf.size] at hll hn
    have hr : R k = splitI x (A k) := by rw [E.r k hl, hk, hg, right2 h.2.2.1, Bool.true_and]
    have hkk : (p.getD k default).kind ≠ 1 := by rw [hg, h.2.2.1]; decide
    have hend : Al.endP p k = ((k + 1 + a.size + b.size : Nat) : Int) := by rw [h.endP]; simp only [Pf.size]; omega
    have hpar := par_first (p := p) (k := k) hkk (by rw [hend]; omega)
    have hpar2 := par_second (p := p) (k := k) (m := a.size) hp hkk (by rw [hend]; omega) (fun i h1 h2 => h.2.2.2.1.nested h1 h2)
    have hH1 : H (k + 1) = R k := by rw [E.h (k + 1) (by omega) (by omega), hpar, Int.toNat_natCast]
    have hH2 : H (k + 1 + a.size) = R k := by rw [E.h (k + 1 + a.size) (by omega) (by omega), hpar2, Int.toNat_natCast]
    have hput : ∀ j : Nat, tget (e.put k (A k)).es j = if j = k then some (A k) else tget e.es j := fun j => by
      show tget (tput e.es k (A k)) j = _
      rw [tget_put]
      by_cases e1 : j = k
      · rw [if_pos e1, if_pos (by omega)]
      · rw [if_neg (by omega), if_neg e1]
    unfold exT
    cases hcl : splitI x (A k) with
    | true =>
      rw [hcl] at hr
      rw [if_pos rfl]
      rw [hr] at hH1 hH2
      have hcl' := hcl
      simp only [splitI, Bool.and_eq_true, decide_eq_true_eq] at hcl'
      have hA1 : A (k + 1) = A k ++ [x.term] := by
        rw [E.a (k + 1) (by omega) (by omega) hH1, hpar, Int.toNat_natCast, hg, belowS, if_neg (by rw [h.2.2.1]; decide), if_pos rfl]
      have hA2 : A (k + 1 + a.size) = A k ++ [oppI x.term] := by
        rw [E.a (k + 1 + a.size) (by omega) (by omega) hH2, hpar2, Int.toNat_natCast, hg, belowS, if_neg (by rw [h.2.2.1]; decide), if_neg (show ¬ ((k : Int), false).2 = true from Bool.false_ne_true), opp_1 hcl'.2]
      have ih1 := h.2.2.2.1.exam E (e := e.put k (A k)) hH1 (by rw [hA1]; exact hc.snoc (ndB_term h.2.1) hcl'.1) (fun j h1 h2 => by rw [hput, if_neg (by omega)]; exact hn j (by omega) (by omega))
      rw [hA1] at ih1
      have ih2 := h.2.2.2.2.exam E (e := exT a (k + 1) (A k ++ [x.term]) (e.put k (A k))) hH2 (by rw [hA2]; exact hc.snoc hcl'.2 hcl'.1) (fun j h1 h2 => by
        rw [ih1.2 j, if_neg (by omega), hput, if_neg (by omega)]; exact hn j (by omega) (by omega))
      rw [hA2] at ih2
      refine ⟨?_, fun j => ?_⟩
      · rw [ih2.1, ih1.1, Pf.size, show 1 + a.size + b.size = (a.size + b.size) + 1 by omega, fl_good (by show (H k && !R k) = false; rw [hr]; simp), fl_add]
        rfl
      · rw [ih2.2 j, ih1.2 j, hput j, Pf.size]
        by_cases e1 : j = k
        · subst e1; rw [if_neg (by omega), if_neg (by omega), if_pos rfl, if_pos (by omega), tabl, if_pos hk]
        · by_cases e2 : k + 1 + a.size ≤ j ∧ j < k + 1 + a.size + b.size
          · rw [if_pos e2, if_pos (by omega)]
          · rw [if_neg e2]
            by_cases e3 : k + 1 ≤ j ∧ j < k + 1 + a.size
            · rw [if_pos e3, if_pos (by omega)]
            · rw [if_neg e3, if_neg e1, if_neg (by omega)]
    | false =>
      rw [hcl] at hr
      rw [if_neg (by decide)]
      rw [hr] at hH1 hH2
      have hd1 := h.2.2.2.1.dead E hH1
      have hd2 := h.2.2.2.2.dead E hH2
      have hd : ∀ j, k < j → j < k + (1 + a.size + b.size) → H j = false := fun j h1 h2 => by
        by_cases e2 : j < k + 1 + a.size
        · exact hd1 j (by omega) e2
        · exact hd2 j (by omega) (by omega)
      have hb : (fun j => H j && !R j) k = true := by show (H k && !R k) = true; rw [hk, hr]; rfl
      refine ⟨?_, fun j => ?_⟩
      · rw [Pf.size, show 1 + a.size + b.size = (a.size + b.size) + 1 by omega, fl_bad hb (fun j h1 h2 => by show (H j && !R j) = false; rw [hd j h1 (by omega)]; rfl)]
        unfold Ex.bad
        show (if e.flaw < 0 then _ else _ : Ex).flaw = _
        split <;> rfl
      · have : tget ((e.put k (A k)).bad k).es j = tget (e.put k (A k)).es j := by unfold Ex.bad; split <;> rfl
        rw [this, hput j, Pf.size]
        by_cases e1 : j = k
        · subst e1; rw [if_pos rfl, if_pos (by omega), tabl, if_pos hk]
        · rw [if_neg e1]
          by_cases e2 : k ≤ j ∧ j < k + (1 + a.size + b.size)
          · rw [if_pos e2, tabl, hd j (by omega) e2.2, if_neg (by decide)]
            exact hn j e2.1 (by omega)
          · rw [if_neg e2]
/-- The whole examination. -/
theorem exam_eq {p : List Nd} {c0 : List Tm} {t : Pf} (hp : isB p = true) (h0 : CtxOk c0) (ht : t.At p 0) (hs : t.size = p.length) :
    (exT t 0 c0 ⟨[], -1⟩).flaw = (csRun p c0 p.length).flaw ∧ ∀ j : Nat, j < p.length → tget (exT t 0 c0 ⟨[], -1⟩).es j = if (csRun p c0 p.length).has.getD j default = true then some ((csRun p c0 p.length).all.getD j default) else none := by
  have hl := (isB_spec hp).1
  have E := csRun_eqs (c0 := c0) hp h0
  have h1 := E.h0 (by omega)
  have h2 := ht.exam E (e := ⟨[], -1⟩) h1.1 (by rw [h1.2]; exact h0) (fun j _ _ => rfl)
  rw [h1.2] at h2
  refine ⟨?_, fun j hj => ?_⟩
  · rw [h2.1, csRun_flaw (c0 := c0) hp h0 (Nat.le_refl _), hs]
  · rw [h2.2 j, if_pos (by omega)]; rfl
theorem ctxI_eq {s : Sq} (h : seqB s = true) : ctxI s = ctxS s := by
  unfold ctxI ctxS
  rw [h, Bool.true_and, opp_2]
  split
  · rename_i ho; rw [opp_1 ho]
  · rfl
theorem ctxI_2 {s : Sq} (h : (ctxI s).2 = true) : seqB s = true ∧ (oppI s.goal).ok = true := by
  unfold ctxI at h
  split at h
  · rename_i h1; simpa using h1
  · cases h
end Go.Al
namespace Go.Al
open Go.Proofs
set_option linter.unusedVariables false
set_option linter.unusedSimpArgs false
set_option maxRecDepth 10000
theorem ctxI_cons {s : Sq} (h : (ctxI s).2 = true) : ∃ c r, (ctxI s).1 = c :: r ∧ CtxOk (c :: r) := by
  obtain ⟨h1, h2⟩ := ctxI_2 h
  have h3 : CtxOk (ctxI s).1 := by rw [ctxI_eq h1]; exact ctxS_ok h1
  unfold ctxI at h3 ⊢
  rw [h1, h2] at h3 ⊢
  simp only [Bool.and_true, if_true] at h3 ⊢
  cases hf : s.facts with
  | nil => rw [hf] at h3; exact ⟨_, _, rfl, h3⟩
  | cons c r => rw [hf] at h3; exact ⟨_, _, rfl, h3⟩
abbrev E0 (s : Sq) (t : Pf) : Ex := exT t 0 (ctxI s).1 ⟨[], -1⟩
theorem c89v {L : Nat} (h1 : 4096 ≤ L) (h2 : L ≤ 1073741824) {s : Sq} {p : List Nd} {t : Pf} (h : (ctxI s).2 = true) (hI : isI p = true) (ht : t.At p 0) (hts : t.size = p.length) : MC Try.prog L 90 [aSq s, ands p] [] (Outs (.tup [.c (.pt 0 0 0), eB true]) (xH p (E0 s t))) := by
 have hσ := SGok (nt := 29) h1 (Nat.le_trans h2 (by decide))
 refine MC.body hσ Try.func90 (by kernel_rfl) rfl rfl (Nat.le_of_ble_eq_true rfl) (fun hF => ?_)
 obtain ⟨c0, r0, hcr, hco⟩ := ctxI_cons h
 have hpl := (isI_tree hI).1
 refine jsr ?_
 refine AOps.heap (HS.box hσ rfl rfl rfl rfl rfl rfl rfl) rfl ?_
 refine jnm ?_
 iterate 2 refine jst hσ rfl rfl rfl rfl rfl ?_
 refine jns ?_
 refine jst hσ rfl rfl rfl rfl rfl ?_
 refine jf5 10 5 4 0 1 rfl rfl rfl rfl rfl ?_
 refine AOps.plainD hσ rfl rfl rfl rfl (c144 (s := s) h1 h2) (VAs.self rfl) rfl rfl rfl rfl (B0 := 12000) rfl rfl ?_
 iterate 5 refine jst hσ rfl rfl rfl rfl rfl ?_
 refine jf6 7 6 5 4 0 1 rfl rfl rfl rfl rfl rfl ?_
 refine jn ?_
 refine AWP.seq ?_
 refine jsr ?_
 iterate 3 refine jst hσ rfl rfl rfl rfl rfl ?_
 refine jf6 16 6 5 4 0 1 rfl rfl rfl rfl rfl rfl ?_
 refine AOps.gr 3 rfl rfl rfl (fun hx => AN.step hx rfl rfl rfl (Val.of hσ rfl rfl) rfl rfl ( AN.lone hσ hx rfl rfl rfl rfl (c145 (p := p) h1 h2) (VAs.self rfl) rfl rfl rfl rfl rfl rfl rfl (B0 := 19000) rfl ( AN.step hx rfl rfl rfl (Val.of hσ rfl rfl) rfl rfl ( AN.nil)))) rfl rfl ?_
 first | refine AOps.step (Val.pickF hσ rfl rfl rfl rfl rfl) rfl rfl rfl ?_ | refine AOps.step (Val.pickB hσ rfl rfl rfl rfl rfl) rfl rfl rfl ?_ | refine AOps.step (Val.pickT hσ rfl rfl rfl rfl rfl) rfl rfl rfl ?_
 refine jf6 20 6 5 4 0 1 rfl rfl rfl rfl rfl rfl ?_
 refine jn ?_
 refine AWP.cond hσ rfl rfl (fun hc20 => ?_) (fun hc20 => ?_)
 ·
  skip
  exact absurd hc20 (by rw [h, hI]; decide)
 ·
  skip
  refine AWP.skip ?_
  refine jsr ?_
  rw [E0, hcr]
  refine jst hσ rfl rfl rfl rfl rfl ?_
  refine jf6 21 6 5 4 0 1 rfl rfl rfl rfl rfl rfl ?_
  refine AOps.heap (HS.makeMap hσ rfl rfl rfl rfl) rfl ?_
  refine jnm ?_
  refine jnm ?_
  refine jst hσ rfl rfl rfl rfl rfl ?_
  refine jf6 23 6 5 4 0 1 rfl rfl rfl rfl rfl rfl ?_
  refine AOps.heap (HS.box hσ rfl rfl rfl rfl rfl rfl rfl) rfl ?_
  refine jnm ?_
  refine jst hσ rfl rfl rfl rfl rfl ?_
  refine jf6 8 6 5 4 0 1 rfl rfl rfl rfl rfl rfl ?_
  refine jns ?_
  iterate 2 refine jst hσ rfl rfl rfl rfl rfl ?_
  refine jf7 26 25 8 5 4 0 1 rfl rfl rfl rfl rfl rfl rfl ?_
  refine AOps.inn hσ [24, 22] (bin := [.box [.d (nds p), .mp 1, .d (.int .i64 (Ex.flaw ⟨[], -1⟩))], iMap (cm (Ex.es ⟨[], -1⟩))]) rfl rfl rfl rfl (c146 (k := 0) (c0 := c0) (r0 := r0) (e := ⟨[], -1⟩) h1 h2 (by omega) ht hco) rfl rfl rfl rfl rfl rfl (B0 := 28000) rfl rfl ?_
  refine jnm ?_
  refine jf5 8 5 4 0 1 rfl rfl rfl rfl rfl ?_
  refine jns ?_
  iterate 3 refine jst hσ rfl rfl rfl rfl rfl ?_
  refine jn ?_
  refine AWP.ret ?_
  refine ⟨.inl rfl, _, (Ent.sel [24, 22] (e' := [(4, _), (5, _)]) rfl rfl ⟨rfl, rfl, trivial⟩ rfl).trans ((Ent.sub2 24 0 rfl rfl).trans (Ent.sub2 22 1 rfl rfl)), _, rfl, rfl, rfl⟩
theorem c89n {L : Nat} (h1 : 4096 ≤ L) (h2 : L ≤ 1073741824) {s : Sq} {p : List Nd} (hn : ((ctxI s).2 && isI p) = false) : MC Try.prog L 90 [aSq s, ands p] [] (Plain (.tup [.c (.d .nilp), eB false])) := by
 refine MC.data ?_
 have hσ := SGok (nt := 29) h1 (Nat.le_trans h2 (by decide))
 refine MC.body hσ Try.func90 (by kernel_rfl) rfl rfl (Nat.le_of_ble_eq_true rfl) (fun hF => ?_)
 refine jsr ?_
 refine AOps.heap (HS.box hσ rfl rfl rfl rfl rfl rfl rfl) rfl ?_
 refine jnm ?_
 iterate 2 refine jst hσ rfl rfl rfl rfl rfl ?_
 refine jns ?_
 refine jst hσ rfl rfl rfl rfl rfl ?_
 refine jf5 10 5 4 0 1 rfl rfl rfl rfl rfl ?_
 refine AOps.plainD hσ rfl rfl rfl rfl (c144 (s := s) h1 h2) (VAs.self rfl) rfl rfl rfl rfl (B0 := 12000) rfl rfl ?_
 iterate 5 refine jst hσ rfl rfl rfl rfl rfl ?_
 refine jf6 7 6 5 4 0 1 rfl rfl rfl rfl rfl rfl ?_
 refine jn ?_
 refine AWP.seq ?_
 refine jsr ?_
 iterate 3 refine jst hσ rfl rfl rfl rfl rfl ?_
 refine jf6 16 6 5 4 0 1 rfl rfl rfl rfl rfl rfl ?_
 refine AOps.gr 3 rfl rfl rfl (fun hx => AN.step hx rfl rfl rfl (Val.of hσ rfl rfl) rfl rfl ( AN.lone hσ hx rfl rfl rfl rfl (c145 (p := p) h1 h2) (VAs.self rfl) rfl rfl rfl rfl rfl rfl rfl (B0 := 19000) rfl ( AN.step hx rfl rfl rfl (Val.of hσ rfl rfl) rfl rfl ( AN.nil)))) rfl rfl ?_
 first | refine AOps.step (Val.pickF hσ rfl rfl rfl rfl rfl) rfl rfl rfl ?_ | refine AOps.step (Val.pickB hσ rfl rfl rfl rfl rfl) rfl rfl rfl ?_ | refine AOps.step (Val.pickT hσ rfl rfl rfl rfl rfl) rfl rfl rfl ?_
 refine jf6 20 6 5 4 0 1 rfl rfl rfl rfl rfl rfl ?_
 refine jn ?_
 refine AWP.cond hσ rfl rfl (fun hc20 => ?_) (fun hc20 => ?_)
 ·
  skip
  refine jsr ?_
  iterate 2 refine jst hσ rfl rfl rfl rfl rfl ?_
  refine jn ?_
  refine AWP.ret ?_
  refine ⟨.inl rfl, _, Ent.refl, _, rfl, ?_⟩
  exact .tup (.cons (.c .d) (.cons (.c .d) .nil))
 ·
  skip
  exact absurd hc20 (by rw [g2, hn]; decide)
theorem c96v {L : Nat} (h1 : 4096 ≤ L) (h2 : L ≤ 1073741824) {s : Sq} {p : List Nd} {t : Pf} (h : (ctxI s).2 = true) (hI : isI p = true) (ht : t.At p 0) (hts : t.size = p.length) : MC Try.prog L 51 [aSq s, ands p] [] (Plain (eB (decide ((E0 s t).flaw < 0)))) := by
 refine MC.alone ?_ rfl
 have hσ := SGok (nt := 21) h1 (Nat.le_trans h2 (by decide))
 refine MC.body hσ Try.func51 (by kernel_rfl) rfl rfl (Nat.le_of_ble_eq_true rfl) (fun hF => ?_)
 refine jsr ?_
 refine AOps.heap (HS.box hσ rfl rfl rfl rfl rfl rfl rfl) rfl ?_
 refine jnm ?_
 refine jst hσ rfl rfl rfl rfl rfl ?_
 refine jns ?_
 iterate 2 refine jst hσ rfl rfl rfl rfl rfl ?_
 refine jf4 9 8 4 0 rfl rfl rfl rfl ?_
 refine AOps.outs hσ rfl rfl rfl rfl (c89v (s := s) (p := p) (t := t) h1 h2 h hI ht hts) (VAs.self rfl) rfl rfl rfl rfl (B0 := 11000) rfl ?_
 refine jnm ?_
 iterate 5 refine jst hσ rfl rfl rfl rfl rfl ?_
 refine jf4 6 5 4 0 rfl rfl rfl rfl ?_
 refine jns ?_
 iterate 2 refine jst hσ rfl rfl rfl rfl rfl ?_
 refine jf4 14 5 4 0 rfl rfl rfl rfl ?_
 refine AOps.gr 5 rfl rfl rfl (fun hx => AN.step hx rfl rfl rfl (Val.of hσ rfl rfl) rfl rfl ( AN.step hx rfl rfl rfl (Val.of hσ rfl rfl) rfl rfl ( AN.step hx rfl rfl rfl (Val.of hσ rfl rfl) rfl rfl ( AN.step hx rfl rfl rfl (Val.of hσ rfl rfl) rfl rfl ( AN.step hx rfl rfl rfl (Val.of hσ rfl rfl) rfl rfl ( AN.nil)))))) rfl rfl ?_
 first | refine AOps.step (Val.pickT hσ rfl rfl rfl rfl rfl) rfl rfl rfl ?_ | refine AOps.step (Val.pickF hσ rfl rfl rfl rfl rfl) rfl rfl rfl ?_ | refine AOps.step (Val.pickB hσ rfl rfl rfl rfl rfl) rfl rfl rfl ?_
 refine jst hσ rfl rfl rfl rfl rfl ?_
 refine AOps.forget [(4, _), (0, _)] ⟨rfl, rfl, trivial⟩ ?_
 refine jn ?_
 refine AWP.ret ?_
 refine ⟨.inl rfl, _, Ent.refl, _, rfl, ?_⟩
 rfl
theorem c96n {L : Nat} (h1 : 4096 ≤ L) (h2 : L ≤ 1073741824) {s : Sq} {p : List Nd} (hn : ((ctxI s).2 && isI p) = false) : MC Try.prog L 51 [aSq s, ands p] [] (Plain (eB false)) := by
 refine MC.alone ?_ rfl
 have hσ := SGok (nt := 21) h1 (Nat.le_trans h2 (by decide))
 refine MC.body hσ Try.func51 (by kernel_rfl) rfl rfl (Nat.le_of_ble_eq_true rfl) (fun hF => ?_)
 refine jsr ?_
 refine AOps.heap (HS.box hσ rfl rfl rfl rfl rfl rfl rfl) rfl ?_
 refine jnm ?_
 refine jst hσ rfl rfl rfl rfl rfl ?_
 refine jns ?_
 iterate 2 refine jst hσ rfl rfl rfl rfl rfl ?_
 refine jf4 9 8 4 0 rfl rfl rfl rfl ?_
 refine AOps.plainD hσ rfl rfl rfl rfl (c89n (s := s) (p := p) h1 h2 hn) (VAs.self rfl) rfl rfl rfl rfl (B0 := 11000) rfl rfl ?_
 iterate 5 refine jst hσ rfl rfl rfl rfl rfl ?_
 refine jf4 6 5 4 0 rfl rfl rfl rfl ?_
 refine jns ?_
 iterate 2 refine jst hσ rfl rfl rfl rfl rfl ?_
 refine jf4 14 5 4 0 rfl rfl rfl rfl ?_
 refine AOps.skip rfl rfl rfl rfl rfl rfl ?_
 refine jf4 15 14 4 0 rfl rfl rfl rfl ?_
 refine AOps.skip rfl rfl rfl rfl rfl rfl ?_
 refine jf4 16 14 4 0 rfl rfl rfl rfl ?_
 refine AOps.skip rfl rfl rfl rfl rfl rfl ?_
 refine jf4 17 14 4 0 rfl rfl rfl rfl ?_
 refine AOps.skip rfl rfl rfl rfl rfl rfl ?_
 refine jf4 18 14 4 0 rfl rfl rfl rfl ?_
 refine AOps.skip rfl rfl rfl rfl rfl rfl ?_
 refine AOps.step (Val.pickN hσ rfl rfl rfl rfl rfl) rfl rfl rfl ?_
 refine jst hσ rfl rfl rfl rfl rfl ?_
 refine AOps.forget [(4, _), (0, _)] ⟨rfl, rfl, trivial⟩ ?_
 refine jn ?_
 refine AWP.ret ?_
 refine ⟨.inl rfl, _, Ent.refl, _, rfl, ?_⟩
 rfl
end Go.Al
namespace Go.Al
open Go.Proofs
set_option linter.unusedVariables false
set_option linter.unusedSimpArgs false
set_option maxRecDepth 10000
theorem chk_v {s : Sq} {p : List Nd} {t : Pf} (h : (ctxI s).2 = true) (hI : isI p = true) (ht : t.At p 0) (hts : t.size = p.length) : decide ((E0 s t).flaw < 0) = chkS s p := by
  obtain ⟨h1, h2⟩ := ctxI_2 h
  have hp : isB p = true := by rw [← isI_eq]; exact hI
  have ho : (oppT s.goal).2 = true := by rw [opp_2]; exact h2
  have he := exam_eq (c0 := (ctxS s).1) hp (ctxS_ok h1) ht hts
  unfold chkS conS E0
  rw [h1, hp, if_pos ho, ctxI_eq h1, he.1]; rfl
theorem chk_n {s : Sq} {p : List Nd} (h : ((ctxI s).2 && isI p) = false) : chkS s p = false := by
  unfold chkS conS
  rw [← isI_eq]
  cases h1 : seqB s with
  | false => rfl
  | true =>
    rw [ctxI_eq h1, ctxS_2] at h
    cases h2 : isI p with
    | false => rfl
    | true => rw [h2, Bool.and_true] at h; rw [if_neg (by rw [h]; decide)]; rfl
theorem c96 {L : Nat} (h1 : 4096 ≤ L) (h2 : L ≤ 1073741824) {s : Sq} {p : List Nd} : MC Try.prog L 51 [aSq s, ands p] [] (Plain (eB (chkS s p))) := by
 cases h : ((ctxI s).2 && isI p) with
 | false => rw [chk_n h]; exact c96n h1 h2 h
 | true =>
  rw [Bool.and_eq_true] at h
  obtain ⟨_, t, ht, hts⟩ := isI_tree h.2
  rw [← chk_v h.1 h.2 ht hts]
  exact c96v h1 h2 h.1 h.2 ht hts
theorem ndB_mlen {n : Nd} (h : ndB n = true) : n.mul.length ≤ 20 := by
  unfold ndB at h
  split at h
  · simp only [Bool.and_eq_true, mulB, decide_eq_true_eq] at h; omega
  · split at h
    · simp only [Bool.and_eq_true, decide_eq_true_eq] at h; omega
    · split at h
      · simp only [Bool.and_eq_true, decide_eq_true_eq] at h; omega
      · cases h
def areI (ss : List Sq) (ps : List (List Nd)) : Bool := decide ((ss.length : Int) ≤ 60) && provedS ss ps
end Go.Al
