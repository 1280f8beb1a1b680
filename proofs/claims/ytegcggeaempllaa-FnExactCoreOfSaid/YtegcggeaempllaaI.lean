/- What both sides say of a tree is the same. -/
import Derived.Test.YtegcggeaempllaaH
namespace Go.Al
open Go.Proofs
set_option linter.unusedVariables false
/-! ### What both sides say of a tree is the same -/
def fl (b : Nat → Bool) : Nat → Nat → Int → Int
  | _, 0, f => f
  | k, n + 1, f => fl b (k + 1) n (if b k = true ∧ f < 0 then (k : Int) else f)
/-- The equations of the reference's lists. -/
structure Eqs (p : List Nd) (c0 : List Tm) (H : Nat → Bool) (A : Nat → List Tm) (R : Nat → Bool) : Prop where
  h0 : 0 < p.length → H 0 = true ∧ A 0 = c0
  h : ∀ j, 0 < j → j < p.length → H j = R (par p j j).1.toNat
  a : ∀ j, 0 < j → j < p.length → H j = true → A j = belowS (p.getD (par p j j).1.toNat default) (A (par p j j).1.toNat) (par p j j).2
  r : ∀ j, j < p.length → R j = (H j && rightB (p.getD j default) (A j))
/-! ### Parents in a tree -/
def tabl (H : Nat → Bool) (A : Nat → List Tm) (j : Nat) : Option (List Tm) := if H j = true then some (A j) else none
theorem ctxI_eq {s : Sq} (h : seqB s = true) : ctxI s = ctxS s := by
  unfold ctxI ctxS
  rw [h, Bool.true_and, opp_2]
  split
  · rename_i ho; rw [opp_1 ho]
  · rfl
theorem ctxI_2 {s : Sq} (h : (ctxI s).2 = true) : seqB s = true ∧ (oppI s.goal).ok = true := by
  unfold ctxI at h
  split at h
  · rename_i h1; simpa using h1
  · cases h
end Go.Al
namespace Go.Al
open Go.Proofs
set_option linter.unusedVariables false
set_option linter.unusedSimpArgs false
set_option maxRecDepth 10000
abbrev E0 (s : Sq) (t : Pf) : Ex := exT t 0 (ctxI s).1 ⟨[], -1⟩
end Go.Al
namespace Go.Al
open Go.Proofs
set_option linter.unusedVariables false
set_option linter.unusedSimpArgs false
set_option maxRecDepth 10000
theorem ndB_mlen {n : Nd} (h : ndB n = true) : n.mul.length ≤ 20 := by
  unfold ndB at h
  split at h
  · simp only [Bool.and_eq_true, mulB, decide_eq_true_eq] at h; omega
  · split at h
    · simp only [Bool.and_eq_true, decide_eq_true_eq] at h; omega
    · split at h
      · simp only [Bool.and_eq_true, decide_eq_true_eq] at h; omega
      · cases h
theorem c99 {L : Nat} (h1 : 4096 ≤ L) (h2 : L ≤ 1073741824) {p : List Nd} {n : Nat} (hn : n ≤ 1001) (hp : ∀ x ∈ p, ndB x = true) : MC Try.prog L 53 [ands p, eI n] [] (Plain (.c (.d (boolsD (usedN nz p n p.length))))) := by
 refine MC.data ?_
 have hσ := SGok (nt := 52) h1 (Nat.le_trans h2 (by decide))
 refine MC.body hσ Try.func53 (by kernel_rfl) rfl rfl (Nat.le_of_ble_eq_true rfl) (fun hF => ?_)
 have hl : p.length ≤ L := by simpa [As.fact, A.fact, M.fact, D.fact, Ds.fact] using hF.1.1
 refine jsr ?_
 refine jst hσ rfl rfl rfl rfl rfl ?_
 refine jns ?_
 refine jst hσ rfl rfl rfl rfl rfl ?_
 refine AOps.heap (HS.make hσ rfl rfl rfl rfl rfl rfl rfl rfl rfl (by first | omega | (simp at *; omega)) (by first | omega | (simp at *; omega)) (by first | omega | (simp at *; omega)) (by first | omega | (dsimp only; omega) | (simp only [List.length_map, beq_iff_eq, decide_eq_true_eq, decide_eq_false_iff_not, Bool.not_eq_true', Bool.not_eq_false', Bool.not_true, Bool.not_false, Int.not_lt, Int.not_le] at *; omega)) (by first | omega | (simp at *; omega)) rfl rfl rfl) rfl ?_
 refine jnm ?_
 refine jst hσ rfl rfl rfl rfl rfl ?_
 refine jf4 5 4 0 1 rfl rfl rfl rfl ?_
 refine jn ?_
 refine AWP.seq ?_
 refine jsr ?_
 refine jst hσ rfl rfl rfl rfl rfl ?_
 first | refine jle hσ rfl rfl rfl rfl rfl rfl rfl rfl rfl rfl rfl ?_ | refine jst hσ rfl rfl rfl rfl rfl ?_ | refine jvf hσ rfl rfl rfl rfl rfl ?_
 refine jst hσ rfl rfl rfl rfl rfl ?_
 refine jn ?_
 refine AWP.block ?_
 refine AWP.loopP (X := Nat) (fun i => ⟨[(1, eI n), (5, .c (.rs 11 0 n)), (12, ands p), (13, eI p.length), (14, eI i)], [(11, brow (usedN nz p n i))]⟩) (fun i => i ≤ p.length) (fun i => p.length - i) 0 (Ent.to ⟨rfl, rfl, rfl, rfl, rfl, trivial⟩ (by simp [usedN, ins])) ?_ (fun i hi => ?_)
 ·
  exact Nat.zero_le _
 refine jsr ?_
 refine jst hσ rfl rfl rfl rfl rfl ?_
 refine jn ?_
 refine AWP.seq ?_
 refine AWP.cond hσ rfl rfl (fun hc15 => ?_) (fun hc15 => ?_)
 ·
  skip
  refine AWP.skip ?_
  refine AWP.seq ?_
  refine AWP.block ?_
  refine jsr ?_
  have hip : i < p.length := by have h9 := of_decide_eq_true hc15; omega
  have hi0 := hi
  have hfa := ndB_fact (hp _ (List.getElem_mem hip))
  have hmn := ndB_mlen (hp _ (List.getElem_mem hip))
  rw [← getD_lt hip] at hfa hmn
  obtain ⟨F, hF⟩ : ∃ F, F = factB (p.getD i default) n (usedN nz p n i) := ⟨_, rfl⟩
  have hFl : F.length = n := by rw [hF, factB_length, usedN_length]
  refine AOps.step (Val.indexN hσ rfl rfl rfl rfl rfl rfl rfl rfl (idxN (by omega))) rfl rfl rfl ?_
  refine jst hσ rfl rfl rfl rfl rfl ?_
  refine jf7 17 15 1 5 12 13 14 rfl rfl rfl rfl rfl rfl rfl ?_
  refine AOps.heap (HS.alloc hσ rfl rfl rfl rfl rfl) rfl ?_
  refine jnm ?_
  refine AOps.heap (HS.storeBox hσ rfl rfl rfl rfl rfl rfl rfl rfl rfl rfl rfl) rfl ?_
  refine jnm ?_
  refine jn ?_
  refine AWP.seq ?_
  refine jsr ?_
  iterate 4 refine jst hσ rfl rfl rfl rfl rfl ?_
  refine jf9 21 7 17 15 1 5 12 13 14 rfl rfl rfl rfl rfl rfl rfl rfl rfl ?_
  refine AOps.gr 4 rfl rfl rfl (fun hx => AN.step hx rfl rfl rfl (Val.of hσ rfl rfl) rfl rfl ( AN.step hx rfl rfl rfl (Val.of hσ rfl rfl) rfl rfl ( AN.step hx rfl rfl rfl (Val.of hσ rfl rfl) rfl rfl ( AN.step hx rfl rfl rfl (Val.of hσ rfl rfl) rfl rfl ( AN.nil))))) rfl rfl ?_
  first | refine AOps.step (Val.pickT hσ rfl rfl rfl rfl rfl) rfl rfl rfl ?_ | refine AOps.step (Val.pickF hσ rfl rfl rfl rfl rfl) rfl rfl rfl ?_ | refine AOps.step (Val.pickB hσ rfl rfl rfl rfl rfl) rfl rfl rfl ?_
  refine jf9 26 7 17 15 1 5 12 13 14 rfl rfl rfl rfl rfl rfl rfl rfl rfl ?_
  refine jn ?_
  refine AWP.cond hσ rfl rfl (fun hc26 => ?_) (fun hc26 => ?_)
  ·
   skip
   refine AWP.region ?_
   have hb9 := band hc26
   rw [decide_eq_true_eq, decide_eq_true_eq] at hb9
   have hF1 : F = (usedN nz p n i).set (p.getD i default).fact.toNat true := by rw [hF, factB, if_pos ⟨hb9.1, hb9.2⟩]
   have hfn := hb9.2
   iterate 3 refine jst hσ rfl rfl rfl rfl rfl ?_
   first | refine jin hσ rfl rfl rfl rfl rfl rfl rfl rfl rfl rfl rfl ?_ | refine jix hσ rfl rfl rfl rfl rfl rfl rfl rfl rfl rfl rfl ?_ | refine jvf hσ rfl rfl rfl rfl rfl ?_
   refine jf10 30 26 7 17 15 1 5 12 13 14 rfl rfl rfl rfl rfl rfl rfl rfl rfl rfl ?_
   refine AOps.heap (HS.storeRow (ex := bL ((usedN nz p n i).getD (p.getD i default).fact.toNat default)) (xs' := ((usedN nz p n i).set (p.getD i default).fact.toNat true).map bL) hσ rfl rfl rfl rfl rfl rfl rfl rfl rfl rfl rfl rfl rfl rfl (idx0 (by rw [usedN_length]; omega)) (by simp [List.map_set])) rfl ?_
   refine jnm ?_
   refine jns ?_
   iterate 2 refine jst hσ rfl rfl rfl rfl rfl ?_
   first | refine jle hσ rfl rfl rfl rfl rfl rfl rfl rfl rfl rfl rfl ?_ | refine jst hσ rfl rfl rfl rfl rfl ?_ | refine jvf hσ rfl rfl rfl rfl rfl ?_
   refine jst hσ rfl rfl rfl rfl rfl ?_
   refine jn ?_
   refine AWP.block ?_
   refine AWP.loopP (X := Nat) (fun j => ⟨[(1, eI n), (5, .c (.rs 11 0 n)), (12, ands p), (13, eI p.length), (14, eI i), (32, aints (p.getD i default).mul), (33, eI (p.getD i default).mul.length), (34, eI j)], [(11, brow (muls nz (p.getD i default).mul n F j))]⟩) (fun j => j ≤ (p.getD i default).mul.length) (fun j => (p.getD i default).mul.length - j) 0 (((Ent.sel [11] (e' := [(1, _), (5, _), (12, _), (13, _), (14, _), (32, _), (33, _), (34, _)]) rfl rfl ⟨rfl, rfl, rfl, rfl, rfl, rfl, rfl, rfl, trivial⟩ rfl)).trans (Ent.to ⟨rfl, rfl, rfl, rfl, rfl, rfl, rfl, rfl, trivial⟩ (by rw [hF1]; rfl))) ?_ (fun j hi => ?_)
   ·
    exact Nat.zero_le _
   refine jsr ?_
   refine jst hσ rfl rfl rfl rfl rfl ?_
   refine jn ?_
   refine AWP.seq ?_
   refine AWP.cond hσ rfl rfl (fun hc35 => ?_) (fun hc35 => ?_)
   ·
    skip
    refine AWP.skip ?_
    refine AWP.seq ?_
    refine AWP.block ?_
    refine jsr ?_
    have hjm := of_decide_eq_true hc35
    refine jst hσ rfl rfl rfl rfl rfl ?_
    first | refine jin hσ rfl rfl rfl rfl rfl rfl rfl rfl rfl rfl rfl ?_ | refine jix hσ rfl rfl rfl rfl rfl rfl rfl rfl rfl rfl rfl ?_ | refine jvf hσ rfl rfl rfl rfl rfl ?_
    iterate 3 refine jst hσ rfl rfl rfl rfl rfl ?_
    refine jf11 9 8 35 1 5 12 13 14 32 33 34 rfl rfl rfl rfl rfl rfl rfl rfl rfl rfl rfl ?_
    refine jns ?_
    iterate 3 refine jst hσ rfl rfl rfl rfl rfl ?_
    refine jf11 41 8 35 1 5 12 13 14 32 33 34 rfl rfl rfl rfl rfl rfl rfl rfl rfl rfl rfl ?_
    refine AOps.gr 3 rfl rfl rfl (fun hx => AN.step hx rfl rfl rfl (Val.of hσ rfl rfl) rfl rfl ( AN.step hx rfl rfl rfl (Val.of hσ rfl rfl) rfl rfl ( AN.step hx rfl rfl rfl (Val.of hσ rfl rfl) rfl rfl ( AN.nil)))) rfl rfl ?_
    first | refine AOps.step (Val.pickT hσ rfl rfl rfl rfl rfl) rfl rfl rfl ?_ | refine AOps.step (Val.pickF hσ rfl rfl rfl rfl rfl) rfl rfl rfl ?_ | refine AOps.step (Val.pickB hσ rfl rfl rfl rfl rfl) rfl rfl rfl ?_
    refine jf11 45 8 35 1 5 12 13 14 32 33 34 rfl rfl rfl rfl rfl rfl rfl rfl rfl rfl rfl ?_
    refine jn ?_
    refine AWP.cond hσ rfl rfl (fun hc45 => ?_) (fun hc45 => ?_)
    ·
     skip
     refine AWP.region ?_
     have hb8 := (band hc45).2
     rw [decide_eq_true_eq] at hb8
     have hjn : j < n := by omega
     iterate 2 refine jst hσ rfl rfl rfl rfl rfl ?_
     first | refine jin hσ rfl rfl rfl rfl rfl rfl rfl rfl rfl rfl rfl ?_ | refine jix hσ rfl rfl rfl rfl rfl rfl rfl rfl rfl rfl rfl ?_ | refine jvf hσ rfl rfl rfl rfl rfl ?_
     refine jf12 48 45 8 35 1 5 12 13 14 32 33 34 rfl rfl rfl rfl rfl rfl rfl rfl rfl rfl rfl rfl ?_
     have hml : (muls nz (p.getD i default).mul n F j).length = n := by rw [muls_length, hFl]
     refine AOps.heap (HS.storeRow (ex := bL ((muls nz (p.getD i default).mul n F j).getD j default)) (xs' := ((muls nz (p.getD i default).mul n F j).set j true).map bL) hσ rfl rfl rfl rfl rfl rfl rfl rfl rfl rfl rfl rfl rfl rfl (idx0 (by rw [hml]; omega)) (by simp [List.map_set])) rfl ?_
     refine jnm ?_
     refine jn ?_
     refine AWP.region ?_
     first | refine jfi hσ rfl rfl rfl rfl rfl ?_ | refine jvf hσ rfl rfl rfl rfl rfl ?_
     refine jst hσ rfl rfl rfl rfl rfl ?_
     refine jn ?_
     have hms : muls nz (p.getD i default).mul n F (j + 1) = (muls nz (p.getD i default).mul n F j).set j true := by rw [muls, if_pos (by rw [Bool.and_eq_true]; exact ⟨(band hc45).1, decide_eq_true hjn⟩)]
     exact ⟨j + 1, Ent.to ⟨rfl, rfl, rfl, rfl, rfl, rfl, rfl, rfl, trivial⟩ (by rw [hms]; try rfl), by omega, by omega⟩
    ·
     skip
     refine AWP.skip ?_
     refine AWP.region ?_
     first | refine jfi hσ rfl rfl rfl rfl rfl ?_ | refine jvf hσ rfl rfl rfl rfl rfl ?_
     refine jst hσ rfl rfl rfl rfl rfl ?_
     refine jn ?_
     have hms : muls nz (p.getD i default).mul n F (j + 1) = muls nz (p.getD i default).mul n F j := by rw [muls, if_neg (fun h9 => bandn hc45 (by rw [Bool.and_eq_true, decide_eq_true_eq] at h9; exact ⟨h9.1, decide_eq_true (by omega)⟩))]
     exact ⟨j + 1, Ent.to ⟨rfl, rfl, rfl, rfl, rfl, rfl, rfl, rfl, trivial⟩ (by rw [hms]; try rfl), by omega, by omega⟩
   ·
    skip
    refine AWP.exit ?_
    refine AWP.region ?_
    first | refine jfi hσ rfl rfl rfl rfl rfl ?_ | refine jvf hσ rfl rfl rfl rfl rfl ?_
    refine jst hσ rfl rfl rfl rfl rfl ?_
    refine jn ?_
    have h8 := of_decide_eq_false hc35
    obtain rfl : j = (p.getD i default).mul.length := by omega
    refine ⟨i + 1, Ent.to ⟨rfl, rfl, rfl, rfl, rfl, trivial⟩ (by rw [hF]; try rfl), by omega, by omega⟩
  ·
   skip
   refine AWP.skip ?_
   refine jsr ?_
   iterate 2 refine jst hσ rfl rfl rfl rfl rfl ?_
   first | refine jle hσ rfl rfl rfl rfl rfl rfl rfl rfl rfl rfl rfl ?_ | refine jst hσ rfl rfl rfl rfl rfl ?_ | refine jvf hσ rfl rfl rfl rfl rfl ?_
   refine jst hσ rfl rfl rfl rfl rfl ?_
   refine jn ?_
   refine AWP.block ?_
   refine AWP.loopP (X := Nat) (fun j => ⟨[(1, eI n), (5, .c (.rs 11 0 n)), (12, ands p), (13, eI p.length), (14, eI i), (32, aints (p.getD i default).mul), (33, eI (p.getD i default).mul.length), (34, eI j)], [(11, brow (muls nz (p.getD i default).mul n F j))]⟩) (fun j => j ≤ (p.getD i default).mul.length) (fun j => (p.getD i default).mul.length - j) 0 (((Ent.sel [11] (e' := [(1, _), (5, _), (12, _), (13, _), (14, _), (32, _), (33, _), (34, _)]) rfl rfl ⟨rfl, rfl, rfl, rfl, rfl, rfl, rfl, rfl, trivial⟩ rfl)).trans (Ent.to ⟨rfl, rfl, rfl, rfl, rfl, rfl, rfl, rfl, trivial⟩ (by rw [show F = usedN nz p n i by rw [hF, factB, if_neg (fun h => bandn hc26 ⟨decide_eq_true h.1, decide_eq_true h.2⟩)]]; rfl))) ?_ (fun j hi => ?_)
   ·
    exact Nat.zero_le _
   refine jsr ?_
   refine jst hσ rfl rfl rfl rfl rfl ?_
   refine jn ?_
   refine AWP.seq ?_
   refine AWP.cond hσ rfl rfl (fun hc35 => ?_) (fun hc35 => ?_)
   ·
    skip
    refine AWP.skip ?_
    refine AWP.seq ?_
    refine AWP.block ?_
    refine jsr ?_
    have hjm := of_decide_eq_true hc35
    refine jst hσ rfl rfl rfl rfl rfl ?_
    first | refine jin hσ rfl rfl rfl rfl rfl rfl rfl rfl rfl rfl rfl ?_ | refine jix hσ rfl rfl rfl rfl rfl rfl rfl rfl rfl rfl rfl ?_ | refine jvf hσ rfl rfl rfl rfl rfl ?_
    iterate 3 refine jst hσ rfl rfl rfl rfl rfl ?_
    refine jf11 9 8 35 1 5 12 13 14 32 33 34 rfl rfl rfl rfl rfl rfl rfl rfl rfl rfl rfl ?_
    refine jns ?_
    iterate 3 refine jst hσ rfl rfl rfl rfl rfl ?_
    refine jf11 41 8 35 1 5 12 13 14 32 33 34 rfl rfl rfl rfl rfl rfl rfl rfl rfl rfl rfl ?_
    refine AOps.gr 3 rfl rfl rfl (fun hx => AN.step hx rfl rfl rfl (Val.of hσ rfl rfl) rfl rfl ( AN.step hx rfl rfl rfl (Val.of hσ rfl rfl) rfl rfl ( AN.step hx rfl rfl rfl (Val.of hσ rfl rfl) rfl rfl ( AN.nil)))) rfl rfl ?_
    first | refine AOps.step (Val.pickT hσ rfl rfl rfl rfl rfl) rfl rfl rfl ?_ | refine AOps.step (Val.pickF hσ rfl rfl rfl rfl rfl) rfl rfl rfl ?_ | refine AOps.step (Val.pickB hσ rfl rfl rfl rfl rfl) rfl rfl rfl ?_
    refine jf11 45 8 35 1 5 12 13 14 32 33 34 rfl rfl rfl rfl rfl rfl rfl rfl rfl rfl rfl ?_
    refine jn ?_
    refine AWP.cond hσ rfl rfl (fun hc45 => ?_) (fun hc45 => ?_)
    ·
     skip
     refine AWP.region ?_
     have hb8 := (band hc45).2
     rw [decide_eq_true_eq] at hb8
     have hjn : j < n := by omega
     iterate 2 refine jst hσ rfl rfl rfl rfl rfl ?_
     first | refine jin hσ rfl rfl rfl rfl rfl rfl rfl rfl rfl rfl rfl ?_ | refine jix hσ rfl rfl rfl rfl rfl rfl rfl rfl rfl rfl rfl ?_ | refine jvf hσ rfl rfl rfl rfl rfl ?_
     refine jf12 48 45 8 35 1 5 12 13 14 32 33 34 rfl rfl rfl rfl rfl rfl rfl rfl rfl rfl rfl rfl ?_
     have hml : (muls nz (p.getD i default).mul n F j).length = n := by rw [muls_length, hFl]
     refine AOps.heap (HS.storeRow (ex := bL ((muls nz (p.getD i default).mul n F j).getD j default)) (xs' := ((muls nz (p.getD i default).mul n F j).set j true).map bL) hσ rfl rfl rfl rfl rfl rfl rfl rfl rfl rfl rfl rfl rfl rfl (idx0 (by rw [hml]; omega)) (by simp [List.map_set])) rfl ?_
     refine jnm ?_
     refine jn ?_
     refine AWP.region ?_
     first | refine jfi hσ rfl rfl rfl rfl rfl ?_ | refine jvf hσ rfl rfl rfl rfl rfl ?_
     refine jst hσ rfl rfl rfl rfl rfl ?_
     refine jn ?_
     have hms : muls nz (p.getD i default).mul n F (j + 1) = (muls nz (p.getD i default).mul n F j).set j true := by rw [muls, if_pos (by rw [Bool.and_eq_true]; exact ⟨(band hc45).1, decide_eq_true hjn⟩)]
     exact ⟨j + 1, Ent.to ⟨rfl, rfl, rfl, rfl, rfl, rfl, rfl, rfl, trivial⟩ (by rw [hms]; try rfl), by omega, by omega⟩
    ·
     skip
     refine AWP.skip ?_
     refine AWP.region ?_
     first | refine jfi hσ rfl rfl rfl rfl rfl ?_ | refine jvf hσ rfl rfl rfl rfl rfl ?_
     refine jst hσ rfl rfl rfl rfl rfl ?_
     refine jn ?_
     have hms : muls nz (p.getD i default).mul n F (j + 1) = muls nz (p.getD i default).mul n F j := by rw [muls, if_neg (fun h9 => bandn hc45 (by rw [Bool.and_eq_true, decide_eq_true_eq] at h9; exact ⟨h9.1, decide_eq_true (by omega)⟩))]
     exact ⟨j + 1, Ent.to ⟨rfl, rfl, rfl, rfl, rfl, rfl, rfl, rfl, trivial⟩ (by rw [hms]; try rfl), by omega, by omega⟩
   ·
    skip
    refine AWP.exit ?_
    refine AWP.region ?_
    first | refine jfi hσ rfl rfl rfl rfl rfl ?_ | refine jvf hσ rfl rfl rfl rfl rfl ?_
    refine jst hσ rfl rfl rfl rfl rfl ?_
    refine jn ?_
    have h8 := of_decide_eq_false hc35
    obtain rfl : j = (p.getD i default).mul.length := by omega
    refine ⟨i + 1, Ent.to ⟨rfl, rfl, rfl, rfl, rfl, trivial⟩ (by rw [hF]; try rfl), by omega, by omega⟩
 ·
  skip
  refine AWP.exit ?_
  refine jsr ?_
  iterate 2 refine jst hσ rfl rfl rfl rfl rfl ?_
  refine jn ?_
  refine AWP.ret ?_
  refine ⟨.inl rfl, _, Ent.refl, _, rfl, ?_⟩
  have h9 := of_decide_eq_false hc15
  obtain rfl : i = p.length := by omega
  exact .v (.c (.whole rfl (by simp [usedN_length])))
def areI (ss : List Sq) (ps : List (List Nd)) : Bool := decide ((ss.length : Int) ≤ 60) && provedS ss ps
end Go.Al
