/- What both sides say of a tree is the same. -/
import Derived.Test.YtegcggeaempllaaGreatH
namespace Go.Al
open Go.Proofs
set_option linter.unusedVariables false
/-! ### What both sides say of a tree is the same -/
def fl (b : Nat → Bool) : Nat → Nat → Int → Int
  | _, 0, f => f
  | k, n + 1, f => fl b (k + 1) n (if b k = true ∧ f < 0 then (k : Int) else f)
/-- The equations of the reference's lists. -/
structure Eqs (p : List Nd) (c0 : List Tm) (H : Nat → Bool) (A : Nat → List Tm) (R : Nat → Bool) : Prop where
  h0 : 0 < p.length → H 0 = true ∧ A 0 = c0
  h : ∀ j, 0 < j → j < p.length → H j = R (par p j j).1.toNat
  a : ∀ j, 0 < j → j < p.length → H j = true → A j = belowS (p.getD (par p j j).1.toNat default) (A (par p j j).1.toNat) (par p j j).2
  r : ∀ j, j < p.length → R j = (H j && rightB (p.getD j default) (A j))
/-! ### Parents in a tree -/
def tabl (H : Nat → Bool) (A : Nat → List Tm) (j : Nat) : Option (List Tm) := if H j = true then some (A j) else none
theorem ctxI_eq {s : Sq} (h : seqB s = true) : ctxI s = ctxS s := by
  unfold ctxI ctxS
  rw [h, Bool.true_and, opp_2]
  split
  · rename_i ho; rw [opp_1 ho]
  · rfl
theorem ctxI_2 {s : Sq} (h : (ctxI s).2 = true) : seqB s = true ∧ (oppI s.goal).ok = true := by
  unfold ctxI at h
  split at h
  · rename_i h1; simpa using h1
  · cases h
end Go.Al
namespace Go.Al
open Go.Proofs
set_option linter.unusedVariables false
set_option linter.unusedSimpArgs false
set_option maxRecDepth 10000
abbrev E0 (s : Sq) (t : Pf) : Ex := exT t 0 (ctxI s).1 ⟨[], -1⟩
end Go.Al
namespace Go.Al
open Go.Proofs
set_option linter.unusedVariables false
set_option linter.unusedSimpArgs false
set_option maxRecDepth 10000
theorem ndB_mlen {n : Nd} (h : ndB n = true) : n.mul.length ≤ 20 := by
  unfold ndB at h
  split at h
  · simp only [Bool.and_eq_true, mulB, decide_eq_true_eq] at h; omega
  · split at h
    · simp only [Bool.and_eq_true, decide_eq_true_eq] at h; omega
    · split at h
      · simp only [Bool.and_eq_true, decide_eq_true_eq] at h; omega
      · cases h
def areI (ss : List Sq) (ps : List (List Nd)) : Bool := decide ((ss.length : Int) ≤ 60) && provedS ss ps
end Go.Al
