/- The reference's folding: validity, rules, copies. -/
import Derived.Test.YtnepkogijffmjaaJ
namespace Go.Al
open Go.Proofs
set_option linter.unusedVariables false
set_option linter.unusedSimpArgs false
set_option maxRecDepth 10000
set_option maxHeartbeats 4000000
theorem andN {a b : Bool} (h : (bif a then b else false) = false) : ¬ (a = true ∧ b = true) := by cases a <;> cases b <;> simp_all
def restS (c : List In) (ps : List Pt) (k i : Nat) : List In := if i = 0 then sgt c ps k else segF (plB c ps) (k + i) (c.drop (k + i))
theorem rest_step {c : List In} {ps : List Pt} {k i : Nat} {os : List Int} (hk : k + i < c.length) (hi : i < os.length) :
    hasR (os.drop i) (restS c ps k i) = (bif !decide ((c.getD (k + i) default).op = os.getD i default) then false else bif (bif decide ((0 : Int) < i) then plB c ps ((k + i : Nat) : Int) else false) then false else hasR (os.drop (i + 1)) (restS c ps k (i + 1))) := by
  rw [List.drop_eq_getElem_cons hi, getD_lt hk, getD_lt hi]
  have e1 : restS c ps k (i + 1) = segF (plB c ps) (k + i + 1) (c.drop (k + i + 1)) := if_neg (by omega)
  have e0 : restS c ps k i = if i ≠ 0 ∧ plB c ps ((k + i : Nat) : Int) = true then [] else c[k + i] :: segF (plB c ps) (k + i + 1) (c.drop (k + i + 1)) := by
    unfold restS
    by_cases h : i = 0
    · subst h
      rw [if_pos rfl, if_neg (by simp), sgt, List.drop_eq_getElem_cons (show k < c.length by omega)]
      rfl
    · rw [if_neg h, List.drop_eq_getElem_cons hk, segF]
      by_cases h2 : plB c ps ((k + i : Nat) : Int) = true
      · rw [if_pos h2, if_pos ⟨h, h2⟩]
      · rw [if_neg h2, if_neg (fun h3 => h2 h3.2)]
  rw [e0, e1]
  by_cases h : i = 0
  · subst h
    rw [if_neg (by simp), hasR]
    cases decide ((c[k + 0]).op = os[0]) <;> simp
  · rw [decide_eq_true (show (0 : Int) < i by omega)]
    cases h2 : plB c ps ((k + i : Nat) : Int) with
    | true => rw [if_pos ⟨h, rfl⟩]; cases decide ((c[k + i]).op = os[i]) <;> rfl
    | false => rw [if_neg (by simp), hasR]; cases decide ((c[k + i]).op = os[i]) <;> rfl
theorem hasR_big {c : List In} {ps : List Pt} {k : Nat} {os : List Int} (h : c.length < k + os.length) (hk : k < c.length) : hasR os (sgt c ps k) = false := by
  cases e : hasR os (sgt c ps k) with
  | false => rfl
  | true => have h1 := hasR_len e; have h2 := sgt_le (c := c) (ps := ps) (k := k); omega
theorem c164 {L : Nat} (h1 : 4096 ≤ L) (h2 : L ≤ 1073741824) {a : An} {k : Nat} {os : List Int} (hk : k < a.code.length) : MC Try.prog L 62 [ptr a.data, eI k, aints os] [] (Plain (eB (hasR os (sgt a.code a.pts k)))) := by
 refine MC.alone ?_ rfl
 have hσ := SGok (nt := 50) h1 (Nat.le_trans h2 (by decide))
 refine MC.body hσ Try.func62 (by kernel_rfl) rfl rfl (Nat.le_of_ble_eq_true rfl) (fun hF => ?_)
 have hl : a.code.length ≤ L := by simpa [As.fact, A.fact, M.fact, D.fact, Ds.fact] using hF.1.2.2.1.1
 have hlo : os.length ≤ L := by simpa [As.fact, A.fact, M.fact, D.fact, Ds.fact] using hF.2.2.1.1
 refine AWP.seq ?_
 refine AWP.region ?_
 refine AOps.step (Val.of hσ rfl rfl) rfl rfl rfl ?_
 refine AOps.nil ?_
 refine AWP.seq ?_
 refine AWP.seq ?_
 refine AWP.region ?_
 refine AOps.step (Val.of hσ rfl rfl) rfl rfl rfl ?_
 refine AOps.step (Val.of hσ rfl rfl) rfl rfl rfl ?_
 first | refine AOps.step (Val.lenD hσ rfl rfl rfl rfl rfl rfl rfl rfl) rfl rfl rfl ?_ | refine AOps.step (Val.of hσ rfl rfl) rfl rfl rfl ?_ | refine AOps.step (Val.vif hσ rfl rfl (by first | omega | (simp at *; omega))) rfl rfl rfl ?_
 first | refine AOps.step (Val.fits64 hσ rfl rfl (by first | omega | (simp at *; omega)) (by first | omega | (simp at *; omega))) rfl rfl rfl ?_ | refine AOps.step (Val.vif hσ rfl rfl (by first | omega | (simp at *; omega))) rfl rfl rfl ?_
 refine AOps.step (Val.of hσ rfl rfl) rfl rfl rfl ?_
 refine AOps.step (Val.of hσ rfl rfl) rfl rfl rfl ?_
 refine AOps.step (Val.of hσ rfl rfl) rfl rfl rfl ?_
 refine AOps.step (Val.of hσ rfl rfl) rfl rfl rfl ?_
 first | refine AOps.step (Val.lenD hσ rfl rfl rfl rfl rfl rfl rfl rfl) rfl rfl rfl ?_ | refine AOps.step (Val.of hσ rfl rfl) rfl rfl rfl ?_ | refine AOps.step (Val.vif hσ rfl rfl (by first | omega | (simp at *; omega))) rfl rfl rfl ?_
 refine AOps.step (Val.of hσ rfl rfl) rfl rfl rfl ?_
 refine AOps.forget [(17, _), (6, _), (0, _), (1, _), (2, _)] ⟨rfl, rfl, rfl, rfl, rfl, trivial⟩ ?_
 refine AOps.nil ?_
 refine AWP.cond hσ rfl rfl (fun hc17 => ?_) (fun hc17 => ?_)
 ·
  skip
  refine AWP.seq ?_
  refine AWP.region ?_
  refine AOps.step (Val.of hσ rfl rfl) rfl rfl rfl ?_
  refine AOps.nil ?_
  refine AWP.ret ?_
  refine ⟨.inl rfl, _, Ent.refl, _, rfl, ?_⟩
  rw [hasR_big (by have := of_decide_eq_true hc17; omega) hk]
 ·
  skip
  refine AWP.skip ?_
  refine AWP.seq ?_
  refine AWP.seq ?_
  refine AWP.region ?_
  refine AOps.step (Val.of hσ rfl rfl) rfl rfl rfl ?_
  refine AOps.nil ?_
  refine AWP.block ?_
  refine AWP.loopP (X := Nat) (fun i => ⟨[(0, ptr a.data), (1, eI k), (2, aints os), (7, eI i)], []⟩) (fun i => i ≤ os.length ∧ hasR (os.drop i) (restS a.code a.pts k i) = hasR os (sgt a.code a.pts k)) (fun i => os.length - i) 0 (Ent.env ⟨rfl, rfl, rfl, rfl, trivial⟩) ?_ (fun i hi => ?_)
  ·
   exact ⟨Nat.zero_le _, by rw [List.drop_zero]; rfl⟩
  refine AWP.seq ?_
  refine AWP.seq ?_
  refine AWP.region ?_
  have h17 := of_decide_eq_false hc17
  refine AOps.step (Val.of hσ rfl rfl) rfl rfl rfl ?_
  refine AOps.step (Val.of hσ rfl rfl) rfl rfl rfl ?_
  first | refine AOps.step (Val.lenD hσ rfl rfl rfl rfl rfl rfl rfl rfl) rfl rfl rfl ?_ | refine AOps.step (Val.of hσ rfl rfl) rfl rfl rfl ?_ | refine AOps.step (Val.vif hσ rfl rfl (by first | omega | (simp at *; omega))) rfl rfl rfl ?_
  refine AOps.step (Val.of hσ rfl rfl) rfl rfl rfl ?_
  refine AOps.forget [(21, _), (0, _), (1, _), (2, _), (7, _)] ⟨rfl, rfl, rfl, rfl, rfl, trivial⟩ ?_
  refine AOps.nil ?_
  refine AWP.cond hσ rfl rfl (fun hc21 => ?_) (fun hc21 => ?_)
  ·
   skip
   refine AWP.skip ?_
   refine AWP.seq ?_
   refine AWP.block ?_
   refine AWP.seq ?_
   have hil : i < os.length := by have := of_decide_eq_true hc21; omega
   have hki : k + i < a.code.length := by omega
   refine AWP.mid (F := ⟨[(49, eB (bif !decide ((a.code.getD (k + i) default).op = os.getD i default) then true else (bif decide ((0 : Int) < i) then plB a.code a.pts ((k + i : Nat) : Int) else false))), (0, ptr a.data), (1, eI k), (2, aints os), (7, eI i)], []⟩) ?_ ?_
   ·
    skip
    cases hb6 : !decide ((a.code.getD (k + i) default).op = os.getD i default) with
    | true =>
     skip
     refine AWP.drawG hσ _ [_, _, _, _, _, _, _, _, _, _, _, _, _, _, _, _, _, _, _, _, _, _, _, _, _, _] [⟨[], 0, 0, none⟩, ⟨[0], 0, 0, none⟩, ⟨[0, 1], 0, 0, none⟩, ⟨[0, 1, 2], 0, 0, none⟩, ⟨[], 0, 0, none⟩, ⟨[], 0, 0, none⟩, ⟨[4, 5], 0, 0, none⟩, ⟨[0, 1, 2, 3, 4, 5, 6], 0, 0, none⟩, ⟨[0, 1, 2, 3, 4, 5, 6, 7], 0, 0, none⟩, ⟨[0, 1, 2, 3, 4, 5, 6, 7, 8], 0, 0, none⟩, ⟨[], 0, 0, none⟩, ⟨[], 0, 0, none⟩, ⟨[10, 11], 0, 0, none⟩, ⟨[10, 11, 12], 0, 0, none⟩, ⟨[0, 1, 2, 3, 4, 5, 6, 7, 8, 9, 10, 11, 12, 13], 0, 0, none⟩, ⟨[0, 1, 2, 3, 4, 5, 6, 7, 8, 9, 10, 11, 12, 13, 14], 0, 0, none⟩, ⟨[0, 1, 2, 3, 4, 5, 6, 7, 8, 9, 10, 11, 12, 13, 14, 15], 0, 0, none⟩, ⟨[0, 1, 2, 3, 4, 5, 6, 7, 8, 9, 10, 11, 12, 13, 14, 15, 16], 0, 0, none⟩, ⟨[0, 1, 2, 3, 4, 5, 6, 7, 8, 9, 10, 11, 12, 13, 14, 15, 16, 17], 0, 0, none⟩, ⟨[0, 1, 2, 3, 4, 5, 6, 7, 8, 9, 10, 11, 12, 13, 14, 15, 16, 17, 18], 0, 0, none⟩, ⟨[0, 1, 2, 3, 4, 5, 6, 7, 8, 9, 10, 11, 12, 13, 14, 15, 16, 17, 18], 0, 0, none⟩, ⟨[0, 1, 2, 3, 4, 5, 6, 7, 8, 9, 10, 11, 12, 13, 14, 15, 16, 17, 18], 0, 0, none⟩, ⟨[0, 1, 2, 3, 4, 5, 6, 7, 8, 9, 10, 11, 12, 13, 14, 15, 16, 17, 18, 20, 21], 0, 0, none⟩, ⟨[0, 1, 2, 3, 4, 5, 6, 7, 8, 9, 10, 11, 12, 13, 14, 15, 16, 17, 18, 19, 20, 21, 22], 0, 0, none⟩, ⟨[0, 1, 2, 3, 4, 5, 6, 7, 8, 9, 10, 11, 12, 13, 14, 15, 16, 17, 18, 19, 20, 21, 22, 23], 0, 0, none⟩, ⟨[0, 1, 2, 3, 4, 5, 6, 7, 8, 9, 10, 11, 12, 13, 14, 15, 16, 17, 18, 19, 20, 21, 22, 23, 24], 0, 0, none⟩] [] [_] rfl rfl (by decide) (by decide) (by kernel_rfl) (And.intro (Val.of hσ rfl rfl) (And.intro (Val.of hσ rfl rfl) (And.intro (Val.of hσ rfl rfl) (And.intro (Val.of hσ rfl rfl) (And.intro (Val.of hσ rfl rfl) (And.intro (Val.of hσ rfl rfl) (And.intro ((Val.fits64 hσ rfl rfl (by first | omega | (simp at *; omega)) (by first | omega | (simp at *; omega))).cast (v' := eI ((k + i : Nat) : Int)) (congrArg eI (by omega))) (And.intro (Val.indexN hσ rfl rfl rfl rfl rfl rfl rfl rfl (idxN (by first | omega | (simp at *; omega)))) (And.intro (Val.of hσ rfl rfl) (And.intro (Val.of hσ rfl rfl) (And.intro (Val.of hσ rfl rfl) (And.intro (Val.of hσ rfl rfl) (And.intro (Val.indexN hσ rfl rfl rfl rfl rfl rfl rfl rfl (idxN (by first | omega | (simp at *; omega)))) (And.intro (Val.of hσ rfl rfl) (And.intro (Val.of hσ rfl rfl) (And.intro ((Val.of hσ rfl rfl).cast (v' := eB true) (congrArg eB hb6)) (And.intro ⟨rfl, rfl⟩ (And.intro ⟨rfl, rfl⟩ (And.intro ⟨rfl, rfl⟩ (And.intro ⟨rfl, rfl⟩ (And.intro ⟨rfl, rfl⟩ (And.intro ⟨rfl, rfl⟩ (And.intro ⟨rfl, rfl⟩ (And.intro ⟨rfl, rfl⟩ (And.intro ⟨rfl, rfl⟩ (And.intro (Val.pickY hσ rfl rfl rfl rfl rfl) trivial)))))))))))))))))))))))))) ?_
     exact ⟨rfl, Ent.env ⟨rfl, rfl, rfl, rfl, rfl, trivial⟩⟩
    | false =>
     cases hb6b : decide ((0 : Int) < i) with
     | true =>
      skip
      refine AWP.drawG hσ _ [_, _, _, _, _, _, _, _, _, _, _, _, _, _, _, _, _, _, _, _, _, _, _, _, _, _] [⟨[], 0, 0, none⟩, ⟨[0], 0, 0, none⟩, ⟨[0, 1], 0, 0, none⟩, ⟨[0, 1, 2], 0, 0, none⟩, ⟨[], 0, 0, none⟩, ⟨[], 0, 0, none⟩, ⟨[4, 5], 0, 0, none⟩, ⟨[0, 1, 2, 3, 4, 5, 6], 0, 0, none⟩, ⟨[0, 1, 2, 3, 4, 5, 6, 7], 0, 0, none⟩, ⟨[0, 1, 2, 3, 4, 5, 6, 7, 8], 0, 0, none⟩, ⟨[], 0, 0, none⟩, ⟨[], 0, 0, none⟩, ⟨[10, 11], 0, 0, none⟩, ⟨[10, 11, 12], 0, 0, none⟩, ⟨[0, 1, 2, 3, 4, 5, 6, 7, 8, 9, 10, 11, 12, 13], 0, 0, none⟩, ⟨[0, 1, 2, 3, 4, 5, 6, 7, 8, 9, 10, 11, 12, 13, 14], 0, 0, none⟩, ⟨[0, 1, 2, 3, 4, 5, 6, 7, 8, 9, 10, 11, 12, 13, 14, 15], 0, 0, none⟩, ⟨[0, 1, 2, 3, 4, 5, 6, 7, 8, 9, 10, 11, 12, 13, 14, 15, 16], 0, 0, none⟩, ⟨[0, 1, 2, 3, 4, 5, 6, 7, 8, 9, 10, 11, 12, 13, 14, 15, 16, 17], 0, 0, none⟩, ⟨[0, 1, 2, 3, 4, 5, 6, 7, 8, 9, 10, 11, 12, 13, 14, 15, 16, 17, 18], 0, 0, none⟩, ⟨[0, 1, 2, 3, 4, 5, 6, 7, 8, 9, 10, 11, 12, 13, 14, 15, 16, 17, 18], 0, 0, none⟩, ⟨[0, 1, 2, 3, 4, 5, 6, 7, 8, 9, 10, 11, 12, 13, 14, 15, 16, 17, 18], 0, 0, none⟩, ⟨[0, 1, 2, 3, 4, 5, 6, 7, 8, 9, 10, 11, 12, 13, 14, 15, 16, 17, 18, 20, 21], 0, 0, none⟩, ⟨[0, 1, 2, 3, 4, 5, 6, 7, 8, 9, 10, 11, 12, 13, 14, 15, 16, 17, 18, 19, 20, 21, 22], 0, 0, some 0⟩, ⟨[0, 1, 2, 3, 4, 5, 6, 7, 8, 9, 10, 11, 12, 13, 14, 15, 16, 17, 18, 19, 20, 21, 22, 23], 1, 1, none⟩, ⟨[0, 1, 2, 3, 4, 5, 6, 7, 8, 9, 10, 11, 12, 13, 14, 15, 16, 17, 18, 19, 20, 21, 22, 23, 24], 1, 1, none⟩] [23] [_, _] rfl rfl (by decide) (by decide) (by kernel_rfl) (And.intro (Val.of hσ rfl rfl) (And.intro (Val.of hσ rfl rfl) (And.intro (Val.of hσ rfl rfl) (And.intro (Val.of hσ rfl rfl) (And.intro (Val.of hσ rfl rfl) (And.intro (Val.of hσ rfl rfl) (And.intro ((Val.fits64 hσ rfl rfl (by first | omega | (simp at *; omega)) (by first | omega | (simp at *; omega))).cast (v' := eI ((k + i : Nat) : Int)) (congrArg eI (by omega))) (And.intro (Val.indexN hσ rfl rfl rfl rfl rfl rfl rfl rfl (idxN (by first | omega | (simp at *; omega)))) (And.intro (Val.of hσ rfl rfl) (And.intro (Val.of hσ rfl rfl) (And.intro (Val.of hσ rfl rfl) (And.intro (Val.of hσ rfl rfl) (And.intro (Val.indexN hσ rfl rfl rfl rfl rfl rfl rfl rfl (idxN (by first | omega | (simp at *; omega)))) (And.intro (Val.of hσ rfl rfl) (And.intro (Val.of hσ rfl rfl) (And.intro ((Val.of hσ rfl rfl).cast (v' := eB false) (congrArg eB hb6)) (And.intro (Val.of hσ rfl rfl) (And.intro (Val.of hσ rfl rfl) (And.intro ((Val.of hσ rfl rfl).cast (v' := eB true) (congrArg eB hb6b)) (And.intro (Val.of hσ rfl rfl) (And.intro (Val.of hσ rfl rfl) (And.intro (Val.of hσ rfl rfl) (And.intro ((Val.fits64 hσ rfl rfl (by first | omega | (simp at *; omega)) (by first | omega | (simp at *; omega))).cast (v' := eI ((k + i : Nat) : Int)) (congrArg eI (by omega))) (And.intro (Eff.lone hσ (B0 := 48000) rfl rfl rfl rfl (c192 (a := a) (k := ((k + i : Nat) : Int)) h1 h2) (VAs.self rfl) rfl rfl rfl rfl rfl) (And.intro (Val.pickY hσ rfl rfl rfl rfl rfl) (And.intro (Val.pickN hσ rfl rfl rfl rfl rfl) trivial)))))))))))))))))))))))))) ?_
      exact ⟨rfl, Ent.env ⟨rfl, rfl, rfl, rfl, rfl, trivial⟩⟩
     | false =>
      skip
      refine AWP.drawG hσ _ [_, _, _, _, _, _, _, _, _, _, _, _, _, _, _, _, _, _, _, _, _, _, _, _, _, _] [⟨[], 0, 0, none⟩, ⟨[0], 0, 0, none⟩, ⟨[0, 1], 0, 0, none⟩, ⟨[0, 1, 2], 0, 0, none⟩, ⟨[], 0, 0, none⟩, ⟨[], 0, 0, none⟩, ⟨[4, 5], 0, 0, none⟩, ⟨[0, 1, 2, 3, 4, 5, 6], 0, 0, none⟩, ⟨[0, 1, 2, 3, 4, 5, 6, 7], 0, 0, none⟩, ⟨[0, 1, 2, 3, 4, 5, 6, 7, 8], 0, 0, none⟩, ⟨[], 0, 0, none⟩, ⟨[], 0, 0, none⟩, ⟨[10, 11], 0, 0, none⟩, ⟨[10, 11, 12], 0, 0, none⟩, ⟨[0, 1, 2, 3, 4, 5, 6, 7, 8, 9, 10, 11, 12, 13], 0, 0, none⟩, ⟨[0, 1, 2, 3, 4, 5, 6, 7, 8, 9, 10, 11, 12, 13, 14], 0, 0, none⟩, ⟨[0, 1, 2, 3, 4, 5, 6, 7, 8, 9, 10, 11, 12, 13, 14, 15], 0, 0, none⟩, ⟨[0, 1, 2, 3, 4, 5, 6, 7, 8, 9, 10, 11, 12, 13, 14, 15, 16], 0, 0, none⟩, ⟨[0, 1, 2, 3, 4, 5, 6, 7, 8, 9, 10, 11, 12, 13, 14, 15, 16, 17], 0, 0, none⟩, ⟨[0, 1, 2, 3, 4, 5, 6, 7, 8, 9, 10, 11, 12, 13, 14, 15, 16, 17, 18], 0, 0, none⟩, ⟨[0, 1, 2, 3, 4, 5, 6, 7, 8, 9, 10, 11, 12, 13, 14, 15, 16, 17, 18], 0, 0, none⟩, ⟨[0, 1, 2, 3, 4, 5, 6, 7, 8, 9, 10, 11, 12, 13, 14, 15, 16, 17, 18], 0, 0, none⟩, ⟨[0, 1, 2, 3, 4, 5, 6, 7, 8, 9, 10, 11, 12, 13, 14, 15, 16, 17, 18, 20, 21], 0, 0, none⟩, ⟨[0, 1, 2, 3, 4, 5, 6, 7, 8, 9, 10, 11, 12, 13, 14, 15, 16, 17, 18, 19, 20, 21, 22], 0, 0, none⟩, ⟨[0, 1, 2, 3, 4, 5, 6, 7, 8, 9, 10, 11, 12, 13, 14, 15, 16, 17, 18, 19, 20, 21, 22, 23], 0, 0, none⟩, ⟨[0, 1, 2, 3, 4, 5, 6, 7, 8, 9, 10, 11, 12, 13, 14, 15, 16, 17, 18, 19, 20, 21, 22, 23, 24], 0, 0, none⟩] [] [_] rfl rfl (by decide) (by decide) (by kernel_rfl) (And.intro (Val.of hσ rfl rfl) (And.intro (Val.of hσ rfl rfl) (And.intro (Val.of hσ rfl rfl) (And.intro (Val.of hσ rfl rfl) (And.intro (Val.of hσ rfl rfl) (And.intro (Val.of hσ rfl rfl) (And.intro ((Val.fits64 hσ rfl rfl (by first | omega | (simp at *; omega)) (by first | omega | (simp at *; omega))).cast (v' := eI ((k + i : Nat) : Int)) (congrArg eI (by omega))) (And.intro (Val.indexN hσ rfl rfl rfl rfl rfl rfl rfl rfl (idxN (by first | omega | (simp at *; omega)))) (And.intro (Val.of hσ rfl rfl) (And.intro (Val.of hσ rfl rfl) (And.intro (Val.of hσ rfl rfl) (And.intro (Val.of hσ rfl rfl) (And.intro (Val.indexN hσ rfl rfl rfl rfl rfl rfl rfl rfl (idxN (by first | omega | (simp at *; omega)))) (And.intro (Val.of hσ rfl rfl) (And.intro (Val.of hσ rfl rfl) (And.intro ((Val.of hσ rfl rfl).cast (v' := eB false) (congrArg eB hb6)) (And.intro (Val.of hσ rfl rfl) (And.intro (Val.of hσ rfl rfl) (And.intro ((Val.of hσ rfl rfl).cast (v' := eB false) (congrArg eB hb6b)) (And.intro ⟨rfl, rfl⟩ (And.intro ⟨rfl, rfl⟩ (And.intro ⟨rfl, rfl⟩ (And.intro ⟨rfl, rfl⟩ (And.intro ⟨rfl, rfl⟩ (And.intro (Val.pickN hσ rfl rfl rfl rfl rfl) (And.intro (Val.pickN hσ rfl rfl rfl rfl rfl) trivial)))))))))))))))))))))))))) ?_
      exact ⟨rfl, Ent.env ⟨rfl, rfl, rfl, rfl, rfl, trivial⟩⟩
   refine AWP.cond hσ rfl rfl (fun hc49 => ?_) (fun hc49 => ?_)
   ·
    skip
    refine AWP.seq ?_
    refine AWP.region ?_
    refine AOps.step (Val.of hσ rfl rfl) rfl rfl rfl ?_
    refine AOps.nil ?_
    refine AWP.ret ?_
    refine ⟨.inl rfl, _, Ent.refl, _, rfl, ?_⟩
    have h9 := rest_step (ps := a.pts) hki hil
    rw [← hi.2, h9]
    generalize (!decide ((a.code.getD (k + i) default).op = os.getD i default)) = b1 at hc49 ⊢
    generalize (bif decide ((0 : Int) < i) then plB a.code a.pts ((k + i : Nat) : Int) else false) = b2 at hc49 ⊢
    cases b1 <;> cases b2 <;> simp_all
   ·
    skip
    refine AWP.skip ?_
    refine AWP.region ?_
    refine AOps.step (Val.of hσ rfl rfl) rfl rfl rfl ?_
    first | refine AOps.step (Val.fits64 hσ rfl rfl (by first | omega | (simp at *; omega)) (by first | omega | (simp at *; omega))) rfl rfl rfl ?_ | refine AOps.step (Val.vif hσ rfl rfl (by first | omega | (simp at *; omega))) rfl rfl rfl ?_
    refine AOps.step (Val.of hσ rfl rfl) rfl rfl rfl ?_
    refine AOps.forget [(7, _), (49, _), (0, _), (1, _), (2, _)] ⟨rfl, rfl, rfl, rfl, rfl, trivial⟩ ?_
    refine AOps.nil ?_
    have h9 := rest_step (ps := a.pts) hki hil
    obtain ⟨h7, h8⟩ := orF hc49
    rw [h7, show (bif decide ((0 : Int) < i) then plB a.code a.pts ((k + i : Nat) : Int) else false) = false from h8] at h9
    exact ⟨i + 1, Ent.env ⟨rfl, rfl, rfl, rfl, trivial⟩, ⟨by omega, h9.symm.trans hi.2⟩, by omega⟩
  ·
   skip
   refine AWP.exit ?_
   refine AWP.seq ?_
   refine AWP.region ?_
   refine AOps.step (Val.of hσ rfl rfl) rfl rfl rfl ?_
   refine AOps.nil ?_
   refine AWP.ret ?_
   refine ⟨.inl rfl, _, Ent.refl, _, rfl, ?_⟩
   obtain rfl : i = os.length := by have := of_decide_eq_false hc21; omega
   rw [← hi.2, List.drop_length]
   rfl
theorem pt_not {a : An} {i : Nat} : (bif (bif !(decide (0 ≤ (a.pts.getD i default).k) && decide ((a.pts.getD i default).k ≤ (a.code.length : Int) - 1)) then true else !terms (a.pts.getD i default).fs 6) then true else (bif decide ((0 : Int) < i) then decide ((a.pts.getD i default).k ≤ (a.pts.getD (i - 1) default).k) else false)) = !ptB a.code.length a.pts i := by
  unfold ptB inB
  rw [show decide ((0 : Int) < i) = decide (0 < i) from decide_eq_decide.2 (by omega)]
  cases decide (0 ≤ (a.pts.getD i default).k) <;> cases decide ((a.pts.getD i default).k ≤ (a.code.length : Int) - 1) <;> cases terms (a.pts.getD i default).fs 6 <;> cases decide (0 < i) <;> cases decide ((a.pts.getD i default).k ≤ (a.pts.getD (i - 1) default).k) <;> rfl
theorem ann_no {a : An} (h : (bif (bif (bif !codeB a.code then true else !terms a.pre 6) then true else !terms a.post 6) then true else decide ((8 : Int) < a.pts.length)) = true) : annB a = false := by
  unfold annB
  rw [show decide (a.pts.length ≤ 8) = !decide ((8 : Int) < a.pts.length) by rw [← decide_not]; exact decide_eq_decide.2 (by omega)]
  generalize codeB a.code = b1 at h ⊢
  generalize terms a.pre 6 = b2 at h ⊢
  generalize terms a.post 6 = b3 at h ⊢
  generalize decide ((8 : Int) < a.pts.length) = b at h ⊢
  cases b1 <;> cases b2 <;> cases b3 <;> cases b <;> simp_all
theorem ann_yes {a : An} (h : (bif (bif (bif !codeB a.code then true else !terms a.pre 6) then true else !terms a.post 6) then true else decide ((8 : Int) < a.pts.length)) = false) : annB a = ptsB a.code.length a.pts ∧ a.pts.length ≤ 8 ∧ codeB a.code = true := by
  unfold annB
  rw [show decide (a.pts.length ≤ 8) = !decide ((8 : Int) < a.pts.length) by rw [← decide_not]; exact decide_eq_decide.2 (by omega)]
  generalize codeB a.code = b1 at h ⊢
  generalize terms a.pre 6 = b2 at h ⊢
  generalize terms a.post 6 = b3 at h ⊢
  by_cases hb : (8 : Int) < a.pts.length
  · rw [decide_eq_true hb] at h
    cases b1 <;> cases b2 <;> cases b3 <;> cases h
  · rw [decide_eq_false hb] at h ⊢
    have h9 : a.pts.length ≤ 8 := by omega
    cases b1 <;> cases b2 <;> cases b3 <;> simp_all
theorem codeB_len {c : List In} (h : codeB c = true) : 1 ≤ c.length ∧ c.length ≤ 80 := by
  simp only [codeB, inB, Bool.and_eq_true, decide_eq_true_eq] at h; omega
theorem c67 {L : Nat} (h1 : 4096 ≤ L) (h2 : L ≤ 1073741824) {a : An} : MC Try.prog L 14 [ptr a.data] [] (Plain (eB (annB a))) := by
 refine MC.alone ?_ rfl
 have hσ := SGok (nt := 90) h1 (Nat.le_trans h2 (by decide))
 refine MC.body hσ Try.func14 (by kernel_rfl) rfl rfl (Nat.le_of_ble_eq_true rfl) (fun hF => ?_)
 have hl : a.code.length ≤ L := by simpa [As.fact, A.fact, M.fact, D.fact, Ds.fact] using hF.1.2.2.1.1
 have hlp : a.pts.length ≤ L := by simpa [As.fact, A.fact, M.fact, D.fact, Ds.fact] using hF.1.2.2.2.1.1
 refine AWP.seq ?_
 refine AWP.region ?_
 refine AOps.step (Val.of hσ rfl rfl) rfl rfl rfl ?_
 refine AOps.nil ?_
 refine AWP.seq ?_
 refine AWP.seq ?_
 refine AWP.region ?_
 refine AOps.step (Val.of hσ rfl rfl) rfl rfl rfl ?_
 refine AOps.step (Val.of hσ rfl rfl) rfl rfl rfl ?_
 refine AOps.step (Val.of hσ rfl rfl) rfl rfl rfl ?_
 refine AOps.step (Val.of hσ rfl rfl) rfl rfl rfl ?_
 refine AOps.reset [(8, _), (2, _), (0, _)] [] ⟨rfl, rfl, rfl, trivial⟩ rfl ?_
 refine AOps.lone hσ rfl rfl rfl rfl (c117 h1 h2) (VAs.self rfl) rfl rfl rfl rfl rfl (B0 := 10000) rfl ?_
 refine AOps.step (Val.of hσ rfl rfl) rfl rfl rfl ?_
 refine AOps.step (Val.of hσ rfl rfl) rfl rfl rfl ?_
 refine AOps.reset [(11, _), (2, _), (0, _)] [] ⟨rfl, rfl, rfl, trivial⟩ rfl ?_
 refine AOps.gr 6 rfl rfl rfl (fun hx => AN.step hx rfl rfl rfl (Val.of hσ rfl rfl) rfl rfl ( AN.step hx rfl rfl rfl (Val.of hσ rfl rfl) rfl rfl ( AN.step hx rfl rfl rfl (Val.of hσ rfl rfl) rfl rfl ( AN.step hx rfl rfl rfl (Val.of hσ rfl rfl) rfl rfl ( AN.lone hσ hx rfl rfl rfl rfl (c118 h1 h2) (VAs.self rfl) rfl rfl rfl rfl rfl rfl rfl (B0 := 17000) rfl ( AN.step hx rfl rfl rfl (Val.of hσ rfl rfl) rfl rfl ( AN.nil))))))) rfl rfl ?_
 first | refine AOps.step (Val.pickF hσ rfl rfl rfl rfl rfl) rfl rfl rfl ?_ | refine AOps.step (Val.pickB hσ rfl rfl rfl rfl rfl) rfl rfl rfl ?_ | refine AOps.step (Val.pickT hσ rfl rfl rfl rfl rfl) rfl rfl rfl ?_
 refine AOps.step (Val.of hσ rfl rfl) rfl rfl rfl ?_
 refine AOps.reset [(19, _), (2, _), (0, _)] [] ⟨rfl, rfl, rfl, trivial⟩ rfl ?_
 refine AOps.gr 6 rfl rfl rfl (fun hx => AN.step hx rfl rfl rfl (Val.of hσ rfl rfl) rfl rfl ( AN.step hx rfl rfl rfl (Val.of hσ rfl rfl) rfl rfl ( AN.step hx rfl rfl rfl (Val.of hσ rfl rfl) rfl rfl ( AN.step hx rfl rfl rfl (Val.of hσ rfl rfl) rfl rfl ( AN.lone hσ hx rfl rfl rfl rfl (c118 h1 h2) (VAs.self rfl) rfl rfl rfl rfl rfl rfl rfl (B0 := 25000) rfl ( AN.step hx rfl rfl rfl (Val.of hσ rfl rfl) rfl rfl ( AN.nil))))))) rfl rfl ?_
 first | refine AOps.step (Val.pickF hσ rfl rfl rfl rfl rfl) rfl rfl rfl ?_ | refine AOps.step (Val.pickB hσ rfl rfl rfl rfl rfl) rfl rfl rfl ?_ | refine AOps.step (Val.pickT hσ rfl rfl rfl rfl rfl) rfl rfl rfl ?_
 refine AOps.step (Val.of hσ rfl rfl) rfl rfl rfl ?_
 refine AOps.reset [(27, _), (2, _), (0, _)] [] ⟨rfl, rfl, rfl, trivial⟩ rfl ?_
 refine AOps.gr 6 rfl rfl rfl (fun hx => AN.step hx rfl rfl rfl (Val.of hσ rfl rfl) rfl rfl ( AN.step hx rfl rfl rfl (Val.of hσ rfl rfl) rfl rfl ( AN.step hx rfl rfl rfl (Val.of hσ rfl rfl) rfl rfl ( AN.step hx rfl rfl rfl (Val.of hσ rfl rfl) rfl rfl ( AN.step hx rfl rfl rfl (Val.lenD hσ rfl rfl rfl rfl rfl rfl rfl rfl) rfl rfl ( AN.step hx rfl rfl rfl (Val.of hσ rfl rfl) rfl rfl ( AN.nil))))))) rfl rfl ?_
 first | refine AOps.step (Val.pickF hσ rfl rfl rfl rfl rfl) rfl rfl rfl ?_ | refine AOps.step (Val.pickB hσ rfl rfl rfl rfl rfl) rfl rfl rfl ?_ | refine AOps.step (Val.pickT hσ rfl rfl rfl rfl rfl) rfl rfl rfl ?_
 refine AOps.forget [(34, _), (2, _), (0, _)] ⟨rfl, rfl, rfl, trivial⟩ ?_
 refine AOps.nil ?_
 refine AWP.cond hσ rfl rfl (fun hc34 => ?_) (fun hc34 => ?_)
 ·
  skip
  refine AWP.seq ?_
  refine AWP.region ?_
  refine AOps.step (Val.of hσ rfl rfl) rfl rfl rfl ?_
  refine AOps.nil ?_
  refine AWP.ret ?_
  refine ⟨.inl rfl, _, Ent.refl, _, rfl, ?_⟩
  rw [ann_no hc34]
 ·
  skip
  refine AWP.skip ?_
  refine AWP.seq ?_
  refine AWP.seq ?_
  refine AWP.region ?_
  refine AOps.step (Val.of hσ rfl rfl) rfl rfl rfl ?_
  refine AOps.nil ?_
  refine AWP.block ?_
  refine AWP.loopP (X := Nat) (fun i => ⟨[(0, ptr a.data), (3, eI i)], []⟩) (fun i => i ≤ a.pts.length ∧ ∀ j, j < i → ptB a.code.length a.pts j = true) (fun i => a.pts.length - i) 0 (Ent.env ⟨rfl, rfl, trivial⟩) ?_ (fun i hi => ?_)
  ·
   exact ⟨Nat.zero_le _, fun j hj => absurd hj (Nat.not_lt_zero j)⟩
  refine AWP.seq ?_
  refine AWP.seq ?_
  refine AWP.region ?_
  refine AOps.step (Val.of hσ rfl rfl) rfl rfl rfl ?_
  refine AOps.step (Val.of hσ rfl rfl) rfl rfl rfl ?_
  refine AOps.step (Val.of hσ rfl rfl) rfl rfl rfl ?_
  refine AOps.step (Val.of hσ rfl rfl) rfl rfl rfl ?_
  refine AOps.step (Val.of hσ rfl rfl) rfl rfl rfl ?_
  first | refine AOps.step (Val.lenD hσ rfl rfl rfl rfl rfl rfl rfl rfl) rfl rfl rfl ?_ | refine AOps.step (Val.of hσ rfl rfl) rfl rfl rfl ?_ | refine AOps.step (Val.vif hσ rfl rfl (by first | omega | (simp at *; omega))) rfl rfl rfl ?_
  refine AOps.step (Val.of hσ rfl rfl) rfl rfl rfl ?_
  refine AOps.forget [(41, _), (0, _), (3, _)] ⟨rfl, rfl, rfl, trivial⟩ ?_
  refine AOps.nil ?_
  refine AWP.cond hσ rfl rfl (fun hc41 => ?_) (fun hc41 => ?_)
  ·
   skip
   refine AWP.skip ?_
   refine AWP.seq ?_
   refine AWP.block ?_
   refine AWP.seq ?_
   refine AWP.region ?_
   have hil : i < a.pts.length := by have := of_decide_eq_true hc41; omega
   refine AOps.step (Val.of hσ rfl rfl) rfl rfl rfl ?_
   refine AOps.step (Val.of hσ rfl rfl) rfl rfl rfl ?_
   refine AOps.step (Val.of hσ rfl rfl) rfl rfl rfl ?_
   refine AOps.step (Val.of hσ rfl rfl) rfl rfl rfl ?_
   refine AOps.step (Val.of hσ rfl rfl) rfl rfl rfl ?_
   first | refine AOps.step (Val.indexN hσ rfl rfl rfl rfl rfl rfl rfl rfl (idxN (by first | omega | (simp at *; omega)))) rfl rfl rfl ?_ | refine AOps.step (Val.indexD hσ rfl rfl rfl rfl rfl rfl rfl rfl (by first | omega | (simp at *; omega)) (idx_get (by first | omega | (simp at *; omega)) (by first | omega | (simp at *; omega)))) rfl rfl rfl ?_ | refine AOps.step (Val.vif hσ rfl rfl (by first | omega | (simp at *; omega))) rfl rfl rfl ?_
   refine AOps.step (Val.of hσ rfl rfl) rfl rfl rfl ?_
   refine AOps.forget [(4, _), (41, _), (0, _), (3, _)] ⟨rfl, rfl, rfl, rfl, trivial⟩ ?_
   refine AOps.nil ?_
   refine AWP.seq ?_
   refine AWP.mid (F := ⟨[(89, eB (bif (bif !(decide (0 ≤ (a.pts.getD i default).k) && decide ((a.pts.getD i default).k ≤ (a.code.length : Int) - 1)) then true else !terms (a.pts.getD i default).fs 6) then true else (bif decide ((0 : Int) < i) then decide ((a.pts.getD i default).k ≤ (a.pts.getD (i - 1) default).k) else false))), (0, ptr a.data), (3, eI i)], []⟩) ?_ ?_
   ·
    skip
    cases hb7 : !(decide (0 ≤ (a.pts.getD i default).k) && decide ((a.pts.getD i default).k ≤ (a.code.length : Int) - 1)) with
    | true =>
     refine AWP.drawG hσ _ (_ :: _ :: _ :: _ :: _ :: _ :: _ :: _ :: _ :: _ :: _ :: _ :: _ :: _ :: _ :: _ :: _ :: _ :: _ :: _ :: _ :: _ :: _ :: _ :: _ :: _ :: _ :: _ :: _ :: _ :: _ :: _ :: _ :: _ :: _ :: _ :: _ :: _ :: _ :: _ :: []) (⟨[], 0, 0, none⟩ :: ⟨[0], 0, 0, none⟩ :: ⟨[0, 1], 0, 0, none⟩ :: ⟨[0, 1, 2], 0, 0, none⟩ :: ⟨[], 0, 0, none⟩ :: ⟨[4], 0, 0, none⟩ :: ⟨[4, 5], 0, 0, none⟩ :: ⟨[4, 5, 6], 0, 0, none⟩ :: ⟨[4, 5, 6, 7], 0, 0, none⟩ :: ⟨[4, 5, 6, 7, 8], 0, 0, none⟩ :: ⟨[0, 1, 2, 3, 4, 5, 6, 7, 8, 9], 0, 0, some 0⟩ :: ⟨[0, 1, 2, 3, 4, 5, 6, 7, 8, 9, 10], 1, 1, none⟩ :: ⟨[0, 1, 2, 3, 4, 5, 6, 7, 8, 9, 10, 11], 1, 1, none⟩ :: ⟨[0, 1, 2, 3, 4, 5, 6, 7, 8, 9, 10, 11, 12], 0, 1, none⟩ :: ⟨[0, 1, 2, 3, 4, 5, 6, 7, 8, 9, 10, 11, 12, 13], 0, 1, none⟩ :: ⟨[0, 1, 2, 3, 4, 5, 6, 7, 8, 9, 10, 11, 12, 13, 14], 0, 1, none⟩ :: ⟨[0, 1, 2, 3, 4, 5, 6, 7, 8, 9, 10, 11, 12, 13, 14, 15], 0, 1, none⟩ :: ⟨[0, 1, 2, 3, 4, 5, 6, 7, 8, 9, 10, 11, 12, 13, 14, 15, 16], 0, 1, none⟩ :: ⟨[0, 1, 2, 3, 4, 5, 6, 7, 8, 9, 10, 11, 12, 13, 14, 15, 16, 17], 0, 1, none⟩ :: ⟨[0, 1, 2, 3, 4, 5, 6, 7, 8, 9, 10, 11, 12, 13, 14, 15, 16, 17, 18], 1, 1, none⟩ :: ⟨[0, 1, 2, 3, 4, 5, 6, 7, 8, 9, 10, 11, 12, 13, 14, 15, 16, 17, 18, 19], 1, 1, none⟩ :: ⟨[0, 1, 2, 3, 4, 5, 6, 7, 8, 9, 10, 11, 12, 13, 14, 15, 16, 17, 18, 19, 20], 0, 1, none⟩ :: ⟨[0, 1, 2, 3, 4, 5, 6, 7, 8, 9, 10, 11, 12, 13, 14, 15, 16, 17, 18, 19, 20, 21], 0, 1, none⟩ :: ⟨[0, 1, 2, 3, 4, 5, 6, 7, 8, 9, 10, 11, 12, 13, 14, 15, 16, 17, 18, 19, 20, 21, 22], 0, 1, none⟩ :: ⟨[0, 1, 2, 3, 4, 5, 6, 7, 8, 9, 10, 11, 12, 13, 14, 15, 16, 17, 18, 19, 20, 21, 22, 23], 0, 1, none⟩ :: ⟨[0, 1, 2, 3, 4, 5, 6, 7, 8, 9, 10, 11, 12, 13, 14, 15, 16, 17, 18, 19, 20, 21, 22, 23, 24], 0, 1, none⟩ :: ⟨[0, 1, 2, 3, 4, 5, 6, 7, 8, 9, 10, 11, 12, 13, 14, 15, 16, 17, 18, 19, 20, 21, 22, 23, 24, 25], 0, 1, none⟩ :: ⟨[0, 1, 2, 3, 4, 5, 6, 7, 8, 9, 10, 11, 12, 13, 14, 15, 16, 17, 18, 19, 20, 21, 22, 23, 24, 25, 26], 0, 1, none⟩ :: ⟨[0, 1, 2, 3, 4, 5, 6, 7, 8, 9, 10, 11, 12, 13, 14, 15, 16, 17, 18, 19, 20, 21, 22, 23], 0, 1, none⟩ :: ⟨[0, 1, 2, 3, 4, 5, 6, 7, 8, 9, 10, 11, 12, 13, 14, 15, 16, 17, 18, 19, 20, 21, 22, 23, 28], 0, 1, none⟩ :: ⟨[0, 1, 2, 3, 4, 5, 6, 7, 8, 9, 10, 11, 12, 13, 14, 15, 16, 17, 18, 19, 20, 21, 22, 23, 24, 25, 26, 27, 28, 29], 0, 1, none⟩ :: ⟨[0, 1, 2, 3, 4, 5, 6, 7, 8, 9, 10, 11, 12, 13, 14, 15, 16, 17, 18, 19, 20, 21, 22, 23, 24, 25, 26, 27, 28, 29, 30], 0, 1, none⟩ :: ⟨[0, 1, 2, 3, 4, 5, 6, 7, 8, 9, 10, 11, 12, 13, 14, 15, 16, 17, 18, 19, 20, 21, 22, 23, 24, 25, 26, 27, 28, 29, 30, 31], 0, 1, none⟩ :: ⟨[0, 1, 2, 3, 4, 5, 6, 7, 8, 9, 10, 11, 12, 13, 14, 15, 16, 17, 18, 19, 20, 21, 22, 23], 0, 1, none⟩ :: ⟨[0, 1, 2, 3, 4, 5, 6, 7, 8, 9, 10, 11, 12, 13, 14, 15, 16, 17, 18, 19, 20, 21, 22, 23, 33], 0, 1, none⟩ :: ⟨[0, 1, 2, 3, 4, 5, 6, 7, 8, 9, 10, 11, 12, 13, 14, 15, 16, 17, 18, 19, 20, 21, 22, 23, 33, 34], 0, 1, none⟩ :: ⟨[0, 1, 2, 3, 4, 5, 6, 7, 8, 9, 10, 11, 12, 13, 14, 15, 16, 17, 18, 19, 20, 21, 22, 23, 33, 34, 35], 0, 1, none⟩ :: ⟨[0, 1, 2, 3, 4, 5, 6, 7, 8, 9, 10, 11, 12, 13, 14, 15, 16, 17, 18, 19, 20, 21, 22, 23, 24, 25, 26, 27, 28, 29, 30, 31, 32, 33, 34, 35, 36], 0, 1, none⟩ :: ⟨[0, 1, 2, 3, 4, 5, 6, 7, 8, 9, 10, 11, 12, 13, 14, 15, 16, 17, 18, 19, 20, 21, 22, 23, 24, 25, 26, 27, 28, 29, 30, 31, 32, 33, 34, 35, 36, 37], 0, 1, none⟩ :: ⟨[0, 1, 2, 3, 4, 5, 6, 7, 8, 9, 10, 11, 12, 13, 14, 15, 16, 17, 18, 19, 20, 21, 22, 23, 24, 25, 26, 27, 28, 29, 30, 31, 32, 33, 34, 35, 36, 37, 38], 1, 1, none⟩ :: []) [10] [_, _] rfl rfl (by decide) (by decide) (by kernel_rfl) (And.intro (Val.of hσ rfl rfl) (And.intro (Val.of hσ rfl rfl) (And.intro (Val.of hσ rfl rfl) (And.intro (Val.of hσ rfl rfl) (And.intro (Val.of hσ rfl rfl) (And.intro (Val.of hσ rfl rfl) (And.intro (Val.of hσ rfl rfl) (And.intro (Val.of hσ rfl rfl) (And.intro (Val.lenD hσ rfl rfl rfl rfl rfl rfl rfl rfl) (And.intro (Val.fits64 hσ rfl rfl (by first | omega | (simp at *; omega)) (by first | omega | (simp at *; omega))) (And.intro (Eff.lone hσ (B0 := 61000) rfl rfl rfl rfl (c84 h1 h2) (VAs.self rfl) rfl rfl rfl rfl rfl) (And.intro (Val.of hσ rfl rfl) (And.intro ((Val.of hσ rfl rfl).cast (v' := eB true) (congrArg eB hb7)) (And.intro ⟨rfl, rfl⟩ (And.intro ⟨rfl, rfl⟩ (And.intro ⟨rfl, rfl⟩ (And.intro ⟨rfl, rfl⟩ (And.intro ⟨rfl, rfl⟩ (And.intro ⟨rfl, rfl⟩ (And.intro (Val.pickY hσ rfl rfl rfl rfl rfl) (And.intro (Val.of hσ rfl rfl) (And.intro ⟨rfl, rfl⟩ (And.intro ⟨rfl, rfl⟩ (And.intro ⟨rfl, rfl⟩ (And.intro ⟨rfl, rfl⟩ (And.intro ⟨rfl, rfl⟩ (And.intro ⟨rfl, rfl⟩ (And.intro ⟨rfl, rfl⟩ (And.intro ⟨rfl, rfl⟩ (And.intro ⟨rfl, rfl⟩ (And.intro ⟨rfl, rfl⟩ (And.intro ⟨rfl, rfl⟩ (And.intro ⟨rfl, rfl⟩ (And.intro ⟨rfl, rfl⟩ (And.intro ⟨rfl, rfl⟩ (And.intro ⟨rfl, rfl⟩ (And.intro ⟨rfl, rfl⟩ (And.intro ⟨rfl, rfl⟩ (And.intro ⟨rfl, rfl⟩ (And.intro (Val.pickY hσ rfl rfl rfl rfl rfl) trivial)))))))))))))))))))))))))))))))))))))))) ?_
     exact ⟨rfl, Ent.env ⟨rfl, rfl, rfl, trivial⟩⟩
    | false =>
     cases hb7b : !terms (a.pts.getD i default).fs 6 with
     | true =>
      refine AWP.drawG hσ _ (_ :: _ :: _ :: _ :: _ :: _ :: _ :: _ :: _ :: _ :: _ :: _ :: _ :: _ :: _ :: _ :: _ :: _ :: _ :: _ :: _ :: _ :: _ :: _ :: _ :: _ :: _ :: _ :: _ :: _ :: _ :: _ :: _ :: _ :: _ :: _ :: _ :: _ :: _ :: _ :: []) (⟨[], 0, 0, none⟩ :: ⟨[0], 0, 0, none⟩ :: ⟨[0, 1], 0, 0, none⟩ :: ⟨[0, 1, 2], 0, 0, none⟩ :: ⟨[], 0, 0, none⟩ :: ⟨[4], 0, 0, none⟩ :: ⟨[4, 5], 0, 0, none⟩ :: ⟨[4, 5, 6], 0, 0, none⟩ :: ⟨[4, 5, 6, 7], 0, 0, none⟩ :: ⟨[4, 5, 6, 7, 8], 0, 0, none⟩ :: ⟨[0, 1, 2, 3, 4, 5, 6, 7, 8, 9], 0, 0, some 0⟩ :: ⟨[0, 1, 2, 3, 4, 5, 6, 7, 8, 9, 10], 1, 1, none⟩ :: ⟨[0, 1, 2, 3, 4, 5, 6, 7, 8, 9, 10, 11], 1, 1, none⟩ :: ⟨[0, 1, 2, 3, 4, 5, 6, 7, 8, 9, 10, 11, 12], 1, 1, none⟩ :: ⟨[0, 1, 2, 3, 4, 5, 6, 7, 8, 9, 10, 11, 12, 13], 1, 1, none⟩ :: ⟨[0, 1, 2, 3, 4, 5, 6, 7, 8, 9, 10, 11, 12, 13, 14], 1, 1, none⟩ :: ⟨[0, 1, 2, 3, 4, 5, 6, 7, 8, 9, 10, 11, 12, 13, 14, 15], 1, 1, none⟩ :: ⟨[0, 1, 2, 3, 4, 5, 6, 7, 8, 9, 10, 11, 12, 13, 14, 15, 16], 0, 0, some 1⟩ :: ⟨[0, 1, 2, 3, 4, 5, 6, 7, 8, 9, 10, 11, 12, 13, 14, 15, 16, 17], 2, 2, none⟩ :: ⟨[0, 1, 2, 3, 4, 5, 6, 7, 8, 9, 10, 11, 12, 13, 14, 15, 16, 17, 18], 2, 2, none⟩ :: ⟨[0, 1, 2, 3, 4, 5, 6, 7, 8, 9, 10, 11, 12, 13, 14, 15, 16, 17, 18, 19], 2, 2, none⟩ :: ⟨[0, 1, 2, 3, 4, 5, 6, 7, 8, 9, 10, 11, 12, 13, 14, 15, 16, 17, 18, 19, 20], 0, 2, none⟩ :: ⟨[0, 1, 2, 3, 4, 5, 6, 7, 8, 9, 10, 11, 12, 13, 14, 15, 16, 17, 18, 19, 20, 21], 0, 2, none⟩ :: ⟨[0, 1, 2, 3, 4, 5, 6, 7, 8, 9, 10, 11, 12, 13, 14, 15, 16, 17, 18, 19, 20, 21, 22], 0, 2, none⟩ :: ⟨[0, 1, 2, 3, 4, 5, 6, 7, 8, 9, 10, 11, 12, 13, 14, 15, 16, 17, 18, 19, 20, 21, 22, 23], 0, 2, none⟩ :: ⟨[0, 1, 2, 3, 4, 5, 6, 7, 8, 9, 10, 11, 12, 13, 14, 15, 16, 17, 18, 19, 20, 21, 22, 23, 24], 0, 2, none⟩ :: ⟨[0, 1, 2, 3, 4, 5, 6, 7, 8, 9, 10, 11, 12, 13, 14, 15, 16, 17, 18, 19, 20, 21, 22, 23, 24, 25], 0, 2, none⟩ :: ⟨[0, 1, 2, 3, 4, 5, 6, 7, 8, 9, 10, 11, 12, 13, 14, 15, 16, 17, 18, 19, 20, 21, 22, 23, 24, 25, 26], 0, 2, none⟩ :: ⟨[0, 1, 2, 3, 4, 5, 6, 7, 8, 9, 10, 11, 12, 13, 14, 15, 16, 17, 18, 19, 20, 21, 22, 23], 0, 2, none⟩ :: ⟨[0, 1, 2, 3, 4, 5, 6, 7, 8, 9, 10, 11, 12, 13, 14, 15, 16, 17, 18, 19, 20, 21, 22, 23, 28], 0, 2, none⟩ :: ⟨[0, 1, 2, 3, 4, 5, 6, 7, 8, 9, 10, 11, 12, 13, 14, 15, 16, 17, 18, 19, 20, 21, 22, 23, 24, 25, 26, 27, 28, 29], 0, 2, none⟩ :: ⟨[0, 1, 2, 3, 4, 5, 6, 7, 8, 9, 10, 11, 12, 13, 14, 15, 16, 17, 18, 19, 20, 21, 22, 23, 24, 25, 26, 27, 28, 29, 30], 0, 2, none⟩ :: ⟨[0, 1, 2, 3, 4, 5, 6, 7, 8, 9, 10, 11, 12, 13, 14, 15, 16, 17, 18, 19, 20, 21, 22, 23, 24, 25, 26, 27, 28, 29, 30, 31], 0, 2, none⟩ :: ⟨[0, 1, 2, 3, 4, 5, 6, 7, 8, 9, 10, 11, 12, 13, 14, 15, 16, 17, 18, 19, 20, 21, 22, 23], 0, 2, none⟩ :: ⟨[0, 1, 2, 3, 4, 5, 6, 7, 8, 9, 10, 11, 12, 13, 14, 15, 16, 17, 18, 19, 20, 21, 22, 23, 33], 0, 2, none⟩ :: ⟨[0, 1, 2, 3, 4, 5, 6, 7, 8, 9, 10, 11, 12, 13, 14, 15, 16, 17, 18, 19, 20, 21, 22, 23, 33, 34], 0, 2, none⟩ :: ⟨[0, 1, 2, 3, 4, 5, 6, 7, 8, 9, 10, 11, 12, 13, 14, 15, 16, 17, 18, 19, 20, 21, 22, 23, 33, 34, 35], 0, 2, none⟩ :: ⟨[0, 1, 2, 3, 4, 5, 6, 7, 8, 9, 10, 11, 12, 13, 14, 15, 16, 17, 18, 19, 20, 21, 22, 23, 24, 25, 26, 27, 28, 29, 30, 31, 32, 33, 34, 35, 36], 0, 2, none⟩ :: ⟨[0, 1, 2, 3, 4, 5, 6, 7, 8, 9, 10, 11, 12, 13, 14, 15, 16, 17, 18, 19, 20, 21, 22, 23, 24, 25, 26, 27, 28, 29, 30, 31, 32, 33, 34, 35, 36, 37], 0, 2, none⟩ :: ⟨[0, 1, 2, 3, 4, 5, 6, 7, 8, 9, 10, 11, 12, 13, 14, 15, 16, 17, 18, 19, 20, 21, 22, 23, 24, 25, 26, 27, 28, 29, 30, 31, 32, 33, 34, 35, 36, 37, 38], 2, 2, none⟩ :: []) [10, 17] [_, _, _] rfl rfl (by decide) (by decide) (by kernel_rfl) (And.intro (Val.of hσ rfl rfl) (And.intro (Val.of hσ rfl rfl) (And.intro (Val.of hσ rfl rfl) (And.intro (Val.of hσ rfl rfl) (And.intro (Val.of hσ rfl rfl) (And.intro (Val.of hσ rfl rfl) (And.intro (Val.of hσ rfl rfl) (And.intro (Val.of hσ rfl rfl) (And.intro (Val.lenD hσ rfl rfl rfl rfl rfl rfl rfl rfl) (And.intro (Val.fits64 hσ rfl rfl (by first | omega | (simp at *; omega)) (by first | omega | (simp at *; omega))) (And.intro (Eff.lone hσ (B0 := 61000) rfl rfl rfl rfl (c84 h1 h2) (VAs.self rfl) rfl rfl rfl rfl rfl) (And.intro (Val.of hσ rfl rfl) (And.intro ((Val.of hσ rfl rfl).cast (v' := eB false) (congrArg eB hb7)) (And.intro (Val.of hσ rfl rfl) (And.intro (Val.of hσ rfl rfl) (And.intro (Val.of hσ rfl rfl) (And.intro (Val.of hσ rfl rfl) (And.intro (Eff.lone hσ (B0 := 68000) rfl rfl rfl rfl (c118 h1 h2) (VAs.self rfl) rfl rfl rfl rfl rfl) (And.intro (Val.of hσ rfl rfl) (And.intro (Val.pickN hσ rfl rfl rfl rfl rfl) (And.intro ((Val.of hσ rfl rfl).cast (v' := eB true) (congrArg eB hb7b)) (And.intro ⟨rfl, rfl⟩ (And.intro ⟨rfl, rfl⟩ (And.intro ⟨rfl, rfl⟩ (And.intro ⟨rfl, rfl⟩ (And.intro ⟨rfl, rfl⟩ (And.intro ⟨rfl, rfl⟩ (And.intro ⟨rfl, rfl⟩ (And.intro ⟨rfl, rfl⟩ (And.intro ⟨rfl, rfl⟩ (And.intro ⟨rfl, rfl⟩ (And.intro ⟨rfl, rfl⟩ (And.intro ⟨rfl, rfl⟩ (And.intro ⟨rfl, rfl⟩ (And.intro ⟨rfl, rfl⟩ (And.intro ⟨rfl, rfl⟩ (And.intro ⟨rfl, rfl⟩ (And.intro ⟨rfl, rfl⟩ (And.intro ⟨rfl, rfl⟩ (And.intro (Val.pickY hσ rfl rfl rfl rfl rfl) trivial)))))))))))))))))))))))))))))))))))))))) ?_
      exact ⟨rfl, Ent.env ⟨rfl, rfl, rfl, trivial⟩⟩
     | false =>
      cases hb7c : decide ((0 : Int) < i) with
      | true =>
       have hi0 : 0 < i := by have := of_decide_eq_true hb7c; omega
       refine AWP.drawG hσ _ (_ :: _ :: _ :: _ :: _ :: _ :: _ :: _ :: _ :: _ :: _ :: _ :: _ :: _ :: _ :: _ :: _ :: _ :: _ :: _ :: _ :: _ :: _ :: _ :: _ :: _ :: _ :: _ :: _ :: _ :: _ :: _ :: _ :: _ :: _ :: _ :: _ :: _ :: _ :: _ :: []) (⟨[], 0, 0, none⟩ :: ⟨[0], 0, 0, none⟩ :: ⟨[0, 1], 0, 0, none⟩ :: ⟨[0, 1, 2], 0, 0, none⟩ :: ⟨[], 0, 0, none⟩ :: ⟨[4], 0, 0, none⟩ :: ⟨[4, 5], 0, 0, none⟩ :: ⟨[4, 5, 6], 0, 0, none⟩ :: ⟨[4, 5, 6, 7], 0, 0, none⟩ :: ⟨[4, 5, 6, 7, 8], 0, 0, none⟩ :: ⟨[0, 1, 2, 3, 4, 5, 6, 7, 8, 9], 0, 0, some 0⟩ :: ⟨[0, 1, 2, 3, 4, 5, 6, 7, 8, 9, 10], 1, 1, none⟩ :: ⟨[0, 1, 2, 3, 4, 5, 6, 7, 8, 9, 10, 11], 1, 1, none⟩ :: ⟨[0, 1, 2, 3, 4, 5, 6, 7, 8, 9, 10, 11, 12], 1, 1, none⟩ :: ⟨[0, 1, 2, 3, 4, 5, 6, 7, 8, 9, 10, 11, 12, 13], 1, 1, none⟩ :: ⟨[0, 1, 2, 3, 4, 5, 6, 7, 8, 9, 10, 11, 12, 13, 14], 1, 1, none⟩ :: ⟨[0, 1, 2, 3, 4, 5, 6, 7, 8, 9, 10, 11, 12, 13, 14, 15], 1, 1, none⟩ :: ⟨[0, 1, 2, 3, 4, 5, 6, 7, 8, 9, 10, 11, 12, 13, 14, 15, 16], 0, 0, some 1⟩ :: ⟨[0, 1, 2, 3, 4, 5, 6, 7, 8, 9, 10, 11, 12, 13, 14, 15, 16, 17], 2, 2, none⟩ :: ⟨[0, 1, 2, 3, 4, 5, 6, 7, 8, 9, 10, 11, 12, 13, 14, 15, 16, 17, 18], 2, 2, none⟩ :: ⟨[0, 1, 2, 3, 4, 5, 6, 7, 8, 9, 10, 11, 12, 13, 14, 15, 16, 17, 18, 19], 2, 2, none⟩ :: ⟨[0, 1, 2, 3, 4, 5, 6, 7, 8, 9, 10, 11, 12, 13, 14, 15, 16, 17, 18, 19, 20], 2, 2, none⟩ :: ⟨[0, 1, 2, 3, 4, 5, 6, 7, 8, 9, 10, 11, 12, 13, 14, 15, 16, 17, 18, 19, 20, 21], 2, 2, none⟩ :: ⟨[0, 1, 2, 3, 4, 5, 6, 7, 8, 9, 10, 11, 12, 13, 14, 15, 16, 17, 18, 19, 20, 21, 22], 2, 2, none⟩ :: ⟨[0, 1, 2, 3, 4, 5, 6, 7, 8, 9, 10, 11, 12, 13, 14, 15, 16, 17, 18, 19, 20, 21, 22, 23], 2, 2, none⟩ :: ⟨[0, 1, 2, 3, 4, 5, 6, 7, 8, 9, 10, 11, 12, 13, 14, 15, 16, 17, 18, 19, 20, 21, 22, 23, 24], 2, 2, none⟩ :: ⟨[0, 1, 2, 3, 4, 5, 6, 7, 8, 9, 10, 11, 12, 13, 14, 15, 16, 17, 18, 19, 20, 21, 22, 23, 24, 25], 2, 2, none⟩ :: ⟨[0, 1, 2, 3, 4, 5, 6, 7, 8, 9, 10, 11, 12, 13, 14, 15, 16, 17, 18, 19, 20, 21, 22, 23, 24, 25, 26], 2, 2, none⟩ :: ⟨[0, 1, 2, 3, 4, 5, 6, 7, 8, 9, 10, 11, 12, 13, 14, 15, 16, 17, 18, 19, 20, 21, 22, 23], 2, 2, none⟩ :: ⟨[0, 1, 2, 3, 4, 5, 6, 7, 8, 9, 10, 11, 12, 13, 14, 15, 16, 17, 18, 19, 20, 21, 22, 23, 28], 2, 2, none⟩ :: ⟨[0, 1, 2, 3, 4, 5, 6, 7, 8, 9, 10, 11, 12, 13, 14, 15, 16, 17, 18, 19, 20, 21, 22, 23, 24, 25, 26, 27, 28, 29], 2, 2, none⟩ :: ⟨[0, 1, 2, 3, 4, 5, 6, 7, 8, 9, 10, 11, 12, 13, 14, 15, 16, 17, 18, 19, 20, 21, 22, 23, 24, 25, 26, 27, 28, 29, 30], 2, 2, none⟩ :: ⟨[0, 1, 2, 3, 4, 5, 6, 7, 8, 9, 10, 11, 12, 13, 14, 15, 16, 17, 18, 19, 20, 21, 22, 23, 24, 25, 26, 27, 28, 29, 30, 31], 2, 2, none⟩ :: ⟨[0, 1, 2, 3, 4, 5, 6, 7, 8, 9, 10, 11, 12, 13, 14, 15, 16, 17, 18, 19, 20, 21, 22, 23], 2, 2, none⟩ :: ⟨[0, 1, 2, 3, 4, 5, 6, 7, 8, 9, 10, 11, 12, 13, 14, 15, 16, 17, 18, 19, 20, 21, 22, 23, 33], 2, 2, none⟩ :: ⟨[0, 1, 2, 3, 4, 5, 6, 7, 8, 9, 10, 11, 12, 13, 14, 15, 16, 17, 18, 19, 20, 21, 22, 23, 33, 34], 2, 2, none⟩ :: ⟨[0, 1, 2, 3, 4, 5, 6, 7, 8, 9, 10, 11, 12, 13, 14, 15, 16, 17, 18, 19, 20, 21, 22, 23, 33, 34, 35], 2, 2, none⟩ :: ⟨[0, 1, 2, 3, 4, 5, 6, 7, 8, 9, 10, 11, 12, 13, 14, 15, 16, 17, 18, 19, 20, 21, 22, 23, 24, 25, 26, 27, 28, 29, 30, 31, 32, 33, 34, 35, 36], 2, 2, none⟩ :: ⟨[0, 1, 2, 3, 4, 5, 6, 7, 8, 9, 10, 11, 12, 13, 14, 15, 16, 17, 18, 19, 20, 21, 22, 23, 24, 25, 26, 27, 28, 29, 30, 31, 32, 33, 34, 35, 36, 37], 2, 2, none⟩ :: ⟨[0, 1, 2, 3, 4, 5, 6, 7, 8, 9, 10, 11, 12, 13, 14, 15, 16, 17, 18, 19, 20, 21, 22, 23, 24, 25, 26, 27, 28, 29, 30, 31, 32, 33, 34, 35, 36, 37, 38], 2, 2, none⟩ :: []) [10, 17] [_, _, _] rfl rfl (by decide) (by decide) (by kernel_rfl) (And.intro (Val.of hσ rfl rfl) (And.intro (Val.of hσ rfl rfl) (And.intro (Val.of hσ rfl rfl) (And.intro (Val.of hσ rfl rfl) (And.intro (Val.of hσ rfl rfl) (And.intro (Val.of hσ rfl rfl) (And.intro (Val.of hσ rfl rfl) (And.intro (Val.of hσ rfl rfl) (And.intro (Val.lenD hσ rfl rfl rfl rfl rfl rfl rfl rfl) (And.intro (Val.fits64 hσ rfl rfl (by first | omega | (simp at *; omega)) (by first | omega | (simp at *; omega))) (And.intro (Eff.lone hσ (B0 := 61000) rfl rfl rfl rfl (c84 h1 h2) (VAs.self rfl) rfl rfl rfl rfl rfl) (And.intro (Val.of hσ rfl rfl) (And.intro ((Val.of hσ rfl rfl).cast (v' := eB false) (congrArg eB hb7)) (And.intro (Val.of hσ rfl rfl) (And.intro (Val.of hσ rfl rfl) (And.intro (Val.of hσ rfl rfl) (And.intro (Val.of hσ rfl rfl) (And.intro (Eff.lone hσ (B0 := 68000) rfl rfl rfl rfl (c118 h1 h2) (VAs.self rfl) rfl rfl rfl rfl rfl) (And.intro (Val.of hσ rfl rfl) (And.intro (Val.pickN hσ rfl rfl rfl rfl rfl) (And.intro ((Val.of hσ rfl rfl).cast (v' := eB false) (congrArg eB hb7b)) (And.intro (Val.of hσ rfl rfl) (And.intro (Val.of hσ rfl rfl) (And.intro ((Val.of hσ rfl rfl).cast (v' := eB true) (congrArg eB hb7c)) (And.intro (Val.of hσ rfl rfl) (And.intro (Val.of hσ rfl rfl) (And.intro (Val.of hσ rfl rfl) (And.intro (Val.of hσ rfl rfl) (And.intro (Val.of hσ rfl rfl) (And.intro ((Val.fits64 hσ rfl rfl (by first | omega | (simp at *; omega)) (by first | omega | (simp at *; omega))).cast (v' := eI ((i - 1 : Nat) : Int)) (congrArg eI (by omega))) (And.intro (Val.indexN hσ rfl rfl rfl rfl rfl rfl rfl rfl (idxN (by first | omega | (simp at *; omega)))) (And.intro (Val.of hσ rfl rfl) (And.intro (Val.of hσ rfl rfl) (And.intro (Val.of hσ rfl rfl) (And.intro (Val.of hσ rfl rfl) (And.intro (Val.of hσ rfl rfl) (And.intro (Val.of hσ rfl rfl) (And.intro (Val.of hσ rfl rfl) (And.intro (Val.pickY hσ rfl rfl rfl rfl rfl) (And.intro (Val.pickN hσ rfl rfl rfl rfl rfl) trivial)))))))))))))))))))))))))))))))))))))))) ?_
       exact ⟨rfl, Ent.env ⟨rfl, rfl, rfl, trivial⟩⟩
      | false =>
       refine AWP.drawG hσ _ (_ :: _ :: _ :: _ :: _ :: _ :: _ :: _ :: _ :: _ :: _ :: _ :: _ :: _ :: _ :: _ :: _ :: _ :: _ :: _ :: _ :: _ :: _ :: _ :: _ :: _ :: _ :: _ :: _ :: _ :: _ :: _ :: _ :: _ :: _ :: _ :: _ :: _ :: _ :: _ :: []) (⟨[], 0, 0, none⟩ :: ⟨[0], 0, 0, none⟩ :: ⟨[0, 1], 0, 0, none⟩ :: ⟨[0, 1, 2], 0, 0, none⟩ :: ⟨[], 0, 0, none⟩ :: ⟨[4], 0, 0, none⟩ :: ⟨[4, 5], 0, 0, none⟩ :: ⟨[4, 5, 6], 0, 0, none⟩ :: ⟨[4, 5, 6, 7], 0, 0, none⟩ :: ⟨[4, 5, 6, 7, 8], 0, 0, none⟩ :: ⟨[0, 1, 2, 3, 4, 5, 6, 7, 8, 9], 0, 0, some 0⟩ :: ⟨[0, 1, 2, 3, 4, 5, 6, 7, 8, 9, 10], 1, 1, none⟩ :: ⟨[0, 1, 2, 3, 4, 5, 6, 7, 8, 9, 10, 11], 1, 1, none⟩ :: ⟨[0, 1, 2, 3, 4, 5, 6, 7, 8, 9, 10, 11, 12], 1, 1, none⟩ :: ⟨[0, 1, 2, 3, 4, 5, 6, 7, 8, 9, 10, 11, 12, 13], 1, 1, none⟩ :: ⟨[0, 1, 2, 3, 4, 5, 6, 7, 8, 9, 10, 11, 12, 13, 14], 1, 1, none⟩ :: ⟨[0, 1, 2, 3, 4, 5, 6, 7, 8, 9, 10, 11, 12, 13, 14, 15], 1, 1, none⟩ :: ⟨[0, 1, 2, 3, 4, 5, 6, 7, 8, 9, 10, 11, 12, 13, 14, 15, 16], 0, 0, some 1⟩ :: ⟨[0, 1, 2, 3, 4, 5, 6, 7, 8, 9, 10, 11, 12, 13, 14, 15, 16, 17], 2, 2, none⟩ :: ⟨[0, 1, 2, 3, 4, 5, 6, 7, 8, 9, 10, 11, 12, 13, 14, 15, 16, 17, 18], 2, 2, none⟩ :: ⟨[0, 1, 2, 3, 4, 5, 6, 7, 8, 9, 10, 11, 12, 13, 14, 15, 16, 17, 18, 19], 2, 2, none⟩ :: ⟨[0, 1, 2, 3, 4, 5, 6, 7, 8, 9, 10, 11, 12, 13, 14, 15, 16, 17, 18, 19, 20], 2, 2, none⟩ :: ⟨[0, 1, 2, 3, 4, 5, 6, 7, 8, 9, 10, 11, 12, 13, 14, 15, 16, 17, 18, 19, 20, 21], 2, 2, none⟩ :: ⟨[0, 1, 2, 3, 4, 5, 6, 7, 8, 9, 10, 11, 12, 13, 14, 15, 16, 17, 18, 19, 20, 21, 22], 2, 2, none⟩ :: ⟨[0, 1, 2, 3, 4, 5, 6, 7, 8, 9, 10, 11, 12, 13, 14, 15, 16, 17, 18, 19, 20, 21, 22, 23], 0, 2, none⟩ :: ⟨[0, 1, 2, 3, 4, 5, 6, 7, 8, 9, 10, 11, 12, 13, 14, 15, 16, 17, 18, 19, 20, 21, 22, 23, 24], 0, 2, none⟩ :: ⟨[0, 1, 2, 3, 4, 5, 6, 7, 8, 9, 10, 11, 12, 13, 14, 15, 16, 17, 18, 19, 20, 21, 22, 23, 24, 25], 0, 2, none⟩ :: ⟨[0, 1, 2, 3, 4, 5, 6, 7, 8, 9, 10, 11, 12, 13, 14, 15, 16, 17, 18, 19, 20, 21, 22, 23, 24, 25, 26], 0, 2, none⟩ :: ⟨[0, 1, 2, 3, 4, 5, 6, 7, 8, 9, 10, 11, 12, 13, 14, 15, 16, 17, 18, 19, 20, 21, 22, 23], 0, 2, none⟩ :: ⟨[0, 1, 2, 3, 4, 5, 6, 7, 8, 9, 10, 11, 12, 13, 14, 15, 16, 17, 18, 19, 20, 21, 22, 23, 28], 0, 2, none⟩ :: ⟨[0, 1, 2, 3, 4, 5, 6, 7, 8, 9, 10, 11, 12, 13, 14, 15, 16, 17, 18, 19, 20, 21, 22, 23, 24, 25, 26, 27, 28, 29], 0, 2, none⟩ :: ⟨[0, 1, 2, 3, 4, 5, 6, 7, 8, 9, 10, 11, 12, 13, 14, 15, 16, 17, 18, 19, 20, 21, 22, 23, 24, 25, 26, 27, 28, 29, 30], 0, 2, none⟩ :: ⟨[0, 1, 2, 3, 4, 5, 6, 7, 8, 9, 10, 11, 12, 13, 14, 15, 16, 17, 18, 19, 20, 21, 22, 23, 24, 25, 26, 27, 28, 29, 30, 31], 0, 2, none⟩ :: ⟨[0, 1, 2, 3, 4, 5, 6, 7, 8, 9, 10, 11, 12, 13, 14, 15, 16, 17, 18, 19, 20, 21, 22, 23], 0, 2, none⟩ :: ⟨[0, 1, 2, 3, 4, 5, 6, 7, 8, 9, 10, 11, 12, 13, 14, 15, 16, 17, 18, 19, 20, 21, 22, 23, 33], 0, 2, none⟩ :: ⟨[0, 1, 2, 3, 4, 5, 6, 7, 8, 9, 10, 11, 12, 13, 14, 15, 16, 17, 18, 19, 20, 21, 22, 23, 33, 34], 0, 2, none⟩ :: ⟨[0, 1, 2, 3, 4, 5, 6, 7, 8, 9, 10, 11, 12, 13, 14, 15, 16, 17, 18, 19, 20, 21, 22, 23, 33, 34, 35], 0, 2, none⟩ :: ⟨[0, 1, 2, 3, 4, 5, 6, 7, 8, 9, 10, 11, 12, 13, 14, 15, 16, 17, 18, 19, 20, 21, 22, 23, 24, 25, 26, 27, 28, 29, 30, 31, 32, 33, 34, 35, 36], 0, 2, none⟩ :: ⟨[0, 1, 2, 3, 4, 5, 6, 7, 8, 9, 10, 11, 12, 13, 14, 15, 16, 17, 18, 19, 20, 21, 22, 23, 24, 25, 26, 27, 28, 29, 30, 31, 32, 33, 34, 35, 36, 37], 2, 2, none⟩ :: ⟨[0, 1, 2, 3, 4, 5, 6, 7, 8, 9, 10, 11, 12, 13, 14, 15, 16, 17, 18, 19, 20, 21, 22, 23, 24, 25, 26, 27, 28, 29, 30, 31, 32, 33, 34, 35, 36, 37, 38], 2, 2, none⟩ :: []) [10, 17] [_, _, _] rfl rfl (by decide) (by decide) (by kernel_rfl) (And.intro (Val.of hσ rfl rfl) (And.intro (Val.of hσ rfl rfl) (And.intro (Val.of hσ rfl rfl) (And.intro (Val.of hσ rfl rfl) (And.intro (Val.of hσ rfl rfl) (And.intro (Val.of hσ rfl rfl) (And.intro (Val.of hσ rfl rfl) (And.intro (Val.of hσ rfl rfl) (And.intro (Val.lenD hσ rfl rfl rfl rfl rfl rfl rfl rfl) (And.intro (Val.fits64 hσ rfl rfl (by first | omega | (simp at *; omega)) (by first | omega | (simp at *; omega))) (And.intro (Eff.lone hσ (B0 := 61000) rfl rfl rfl rfl (c84 h1 h2) (VAs.self rfl) rfl rfl rfl rfl rfl) (And.intro (Val.of hσ rfl rfl) (And.intro ((Val.of hσ rfl rfl).cast (v' := eB false) (congrArg eB hb7)) (And.intro (Val.of hσ rfl rfl) (And.intro (Val.of hσ rfl rfl) (And.intro (Val.of hσ rfl rfl) (And.intro (Val.of hσ rfl rfl) (And.intro (Eff.lone hσ (B0 := 68000) rfl rfl rfl rfl (c118 h1 h2) (VAs.self rfl) rfl rfl rfl rfl rfl) (And.intro (Val.of hσ rfl rfl) (And.intro (Val.pickN hσ rfl rfl rfl rfl rfl) (And.intro ((Val.of hσ rfl rfl).cast (v' := eB false) (congrArg eB hb7b)) (And.intro (Val.of hσ rfl rfl) (And.intro (Val.of hσ rfl rfl) (And.intro ((Val.of hσ rfl rfl).cast (v' := eB false) (congrArg eB hb7c)) (And.intro ⟨rfl, rfl⟩ (And.intro ⟨rfl, rfl⟩ (And.intro ⟨rfl, rfl⟩ (And.intro ⟨rfl, rfl⟩ (And.intro ⟨rfl, rfl⟩ (And.intro ⟨rfl, rfl⟩ (And.intro ⟨rfl, rfl⟩ (And.intro ⟨rfl, rfl⟩ (And.intro ⟨rfl, rfl⟩ (And.intro ⟨rfl, rfl⟩ (And.intro ⟨rfl, rfl⟩ (And.intro ⟨rfl, rfl⟩ (And.intro ⟨rfl, rfl⟩ (And.intro ⟨rfl, rfl⟩ (And.intro (Val.pickN hσ rfl rfl rfl rfl rfl) (And.intro (Val.pickN hσ rfl rfl rfl rfl rfl) trivial)))))))))))))))))))))))))))))))))))))))) ?_
       exact ⟨rfl, Ent.env ⟨rfl, rfl, rfl, trivial⟩⟩
   refine AWP.cond hσ rfl rfl (fun hc89 => ?_) (fun hc89 => ?_)
   ·
    skip
    refine AWP.seq ?_
    refine AWP.region ?_
    refine AOps.step (Val.of hσ rfl rfl) rfl rfl rfl ?_
    refine AOps.nil ?_
    refine AWP.ret ?_
    refine ⟨.inl rfl, _, Ent.refl, _, rfl, ?_⟩
    rw [(ann_yes hc34).1, ptsB_not i hil (notF (pt_not.symm.trans hc89))]
   ·
    skip
    refine AWP.skip ?_
    refine AWP.region ?_
    refine AOps.step (Val.of hσ rfl rfl) rfl rfl rfl ?_
    first | refine AOps.step (Val.fits64 hσ rfl rfl (by first | omega | (simp at *; omega)) (by first | omega | (simp at *; omega))) rfl rfl rfl ?_ | refine AOps.step (Val.vif hσ rfl rfl (by first | omega | (simp at *; omega))) rfl rfl rfl ?_
    refine AOps.step (Val.of hσ rfl rfl) rfl rfl rfl ?_
    refine AOps.forget [(3, _), (89, _), (0, _)] ⟨rfl, rfl, rfl, trivial⟩ ?_
    refine AOps.nil ?_
    have h9 : ptB a.code.length a.pts i = true := notT (pt_not.symm.trans hc89)
    refine ⟨i + 1, Ent.env ⟨rfl, rfl, trivial⟩, ⟨by omega, fun j hj => ?_⟩, by omega⟩
    by_cases e : j = i
    ·
     subst e; exact h9
    ·
     exact hi.2 j (by omega)
  ·
   skip
   refine AWP.exit ?_
   refine AWP.seq ?_
   refine AWP.region ?_
   refine AOps.step (Val.of hσ rfl rfl) rfl rfl rfl ?_
   refine AOps.nil ?_
   refine AWP.ret ?_
   refine ⟨.inl rfl, _, Ent.refl, _, rfl, ?_⟩
   rw [(ann_yes hc34).1, ptsB_of fun j hj => hi.2 j (by have := of_decide_eq_false hc41; omega)]
def ruleC (x y z : In) (H : List Int → Bool) : Nat × List In :=
  if H [0, 4] = true ∧ num (x.a * y.a) = true then (2, [⟨0, x.a * y.a⟩])
  else if H [0, 0, 3] = true ∧ num (x.a + y.a) = true then (3, [⟨0, x.a + y.a⟩])
  else if H [0, 1, 3] = true ∧ x.a = 0 then (3, [y])
  else if H [0, 1, 4, 3] = true ∧ x.a = 0 then (4, [y, z])
  else if (plainB x = true ∨ x.op = 4) ∧ H [x.op, 0, 3] = true ∧ y.a = 0 then (3, [x])
  else if plainB x = true ∧ H [x.op, 4] = true ∧ y.a = 1 then (2, [x])
  else if H [4, 4] = true ∧ num (x.a * y.a) = true then (2, [⟨4, x.a * y.a⟩])
  else (0, [])
theorem hasR_short {s : List In} {os : List Int} (h : s.length < os.length) : hasR os s = false := by
  cases e : hasR os s with
  | false => rfl
  | true => have := hasR_len e; omega
theorem ruleC_1 {x y y' z z' : In} {H : List Int → Bool} (h : ∀ os, 2 ≤ os.length → H os = false) : ruleC x y z H = ruleC x y' z' H := by
  unfold ruleC
  rw [h [0, 4] (by decide), h [0, 0, 3] (by decide), h [0, 1, 3] (by decide), h [0, 1, 4, 3] (by decide), h [x.op, 0, 3] (Nat.le_add_left 2 1), h [x.op, 4] (Nat.le_refl 2), h [4, 4] (by decide)]
  simp
theorem ruleC_2 {x y z z' : In} {H : List Int → Bool} (h : ∀ os, 3 ≤ os.length → H os = false) : ruleC x y z H = ruleC x y z' H := by
  unfold ruleC
  rw [h [0, 1, 4, 3] (by decide)]
  simp
theorem ruleR_code {c : List In} {ps : List Pt} {k : Nat} (hk : k < c.length) : ruleR (sgt c ps k) = ruleC (c.getD k default) (c.getD (k + 1) default) (c.getD (k + 2) default) (fun os => hasR os (sgt c ps k)) := by
  have e : ruleR (sgt c ps k) = ruleC ((sgt c ps k).getD 0 default) ((sgt c ps k).getD 1 default) ((sgt c ps k).getD 2 default) (fun os => hasR os (sgt c ps k)) := rfl
  rw [e, sgt_getD (sgt_pos hk)]
  rcases Nat.lt_or_ge 1 (sgt c ps k).length with h1 | h1
  · rw [sgt_getD h1]
    rcases Nat.lt_or_ge 2 (sgt c ps k).length with h2 | h2
    · rw [sgt_getD h2]; rfl
    · exact ruleC_2 fun os ho => hasR_short (by omega)
  · exact ruleC_1 fun os ho => hasR_short (by omega)
theorem seg_lt {c : List In} {ps : List Pt} {k : Nat} {os : List Int} (hk : k < c.length) (h : hasR os (sgt c ps k) = true) : k + os.length ≤ c.length := by
  have h1 := hasR_len h; have h2 := sgt_le (c := c) (ps := ps) (k := k); omega
theorem instr_numB {x : In} (h : instrB x = true) (ho : x.op = 0 ∨ x.op = 4) : num x.a = true := by
  unfold instrB at h; rwa [if_pos ho] at h
theorem seg_num {a : An} (hA : AOk a) {k : Nat} {os : List Int} (hk : k < a.code.length) (h : hasR os (sgt a.code a.pts k) = true) {i : Nat} (hi : i < os.length) (ho : os.getD i default = 0 ∨ os.getD i default = 4) : num (a.code.getD (k + i) default).a = true := by
  have h1 := seg_lt hk h; have h2 := hasR_len h
  have h3 := hasR_get h i hi
  rw [sgt_getD (by omega)] at h3
  exact instr_numB (by rw [getD_lt (by omega)]; exact hA.code _ (List.getElem_mem _)) (by rw [h3]; exact ho)
theorem numM {x y : Int} (hx : num x = true) (hy : num y = true) : -1000000000000000 ≤ x * y ∧ x * y ≤ 1000000000000000 := mul_in (num_iff.1 hx) (by have := num_iff.1 hy; omega)
theorem instr_a {x : In} (h : instrB x = true) : -1000000 ≤ x.a ∧ x.a ≤ 1000000 := by
  unfold instrB num inB at h
  split at h
  · simpa using h
  · split at h
    · simp at h; omega
    · split at h
      · simp at h; omega
      · split at h
        · simp at h; omega
        · split at h
          · simp at h; omega
          · cases h
abbrev resRu (r : Nat × List In) : A := .tup [eI r.1, ains r.2]
end Go.Al
namespace Go.Al
open Go.Proofs
set_option linter.unusedVariables false
/-! A list of which the first elements have been changed. -/
def upS {α : Type} (f : α → α) (l : List α) (i : Nat) : List α := (l.take i).map f ++ l.drop i
section
set_option linter.unusedSectionVars false
variable {α : Type} [Inhabited α] {f : α → α} {l : List α} {i : Nat} {g : α → List D}
theorem upS_all : upS f l l.length = l.map f := by simp [upS]
theorem upS_len : (upS f l i).length = l.length := by simp only [upS, List.length_append, List.length_map, List.length_take, List.length_drop]; omega
theorem upS_get (hi : i < l.length) : ((upS f l i).map g)[i]? = some (g (l.getD i default)) := by
  have h1 : (upS f l i)[i]? = some (l.getD i default) := by
    rw [upS, List.getElem?_append_right (by simp; omega), List.length_map, List.length_take, List.getElem?_drop, getD_lt hi, show i + (i - min i l.length) = i by omega, List.getElem?_eq_getElem hi]
  rw [List.getElem?_map, h1]; rfl
theorem upS_set (hi : i < l.length) : (upS f l i).set i (f (l.getD i default)) = upS f l (i + 1) := by
  unfold upS
  rw [List.set_append_right _ _ (by simp; omega), List.length_map, List.length_take, show i - min i l.length = 0 by omega, List.drop_eq_getElem_cons hi, List.set_cons_zero, List.take_succ_eq_append_getElem hi, List.map_append, getD_lt hi, List.append_assoc]
  rfl
theorem upS_row (hi : i < l.length) {ds : List D} (h : g (f (l.getD i default)) = ds) : ((upS f l i).map g).set i ds = (upS f l (i + 1)).map g := by
  rw [← upS_set hi, List.map_set, h]
theorem upS_skip (hi : i < l.length) (h : f (l.getD i default) = l.getD i default) : upS f l (i + 1) = upS f l i := by
  rw [← upS_set hi, h]
  refine List.ext_getElem? fun j => ?_
  rw [List.getElem?_set]
  split
  · rename_i e; subst e
    have h1 : (upS f l i)[i]? = some (l.getD i default) := by
      rw [upS, List.getElem?_append_right (by simp; omega), List.length_map, List.length_take, List.getElem?_drop, getD_lt hi, show i + (i - min i l.length) = i by omega, List.getElem?_eq_getElem hi]
    rw [h1, if_pos (by rw [upS_len]; exact hi)]
  · rfl
theorem upS_getj {j : Nat} (hi : i < l.length) (hj : j = i) : ((upS f l i).map g)[j]? = some (g (l.getD i default)) := by subst hj; exact upS_get hi
theorem upS_rowj {j : Nat} (hi : i < l.length) (hj : j = i) {ds : List D} (h : g (f (l.getD i default)) = ds) : ((upS f l i).map g).set j ds = (upS f l (i + 1)).map g := by subst hj; exact upS_row hi h
end
theorem mem_gd {α : Type} [Inhabited α] {s : List α} {i : Nat} (h : i < s.length) : s.getD i default ∈ s := by rw [getD_lt h]; exact List.getElem_mem h
theorem in_scal {c : List In} : Scal (c.map In.cells) := Scal.map fun _ => rfl
theorem in_size {c : List In} : ∀ x ∈ c.map In.cells, x.length = 2 := by simp
abbrev crow (c : List In) : B := .row false 2 (c.map In.cells)
abbrev dprow (ps : List Pt) : B := .row false 2 (ps.map Pt.cells)
abbrev newC (a : An) (k n : Nat) (b : List In) : List In := a.code.take k ++ b ++ a.code.drop (k + n)
end Go.Al
namespace Go.Al
open Go.Proofs
set_option linter.unusedVariables false
set_option linter.unusedSimpArgs false
set_option maxRecDepth 10000
set_option maxHeartbeats 4000000
theorem plain_bif {x : In} : (bif bif decide (x.op = 1) then true else decide (x.op = 3) then true else decide (x.op = 7)) = plainB x := by
  unfold plainB; cases decide (x.op = 1) <;> cases decide (x.op = 3) <;> rfl
theorem bifT {a b : Bool} (h : (bif a then b else false) = true) : a = true ∧ b = true := by cases a <;> cases b <;> simp_all
theorem pat5 {x y : In} {h : Bool} (e : (bif bif bif plainB x then true else decide (x.op = 4) then h else false then decide (y.a = 0) else false) = true) : (plainB x = true ∨ x.op = 4) ∧ h = true ∧ y.a = 0 := by
  by_cases h4 : x.op = 4 <;> cases hp : plainB x <;> simp_all
theorem pat5' {x y : In} {h : Bool} (e : (bif bif bif plainB x then true else decide (x.op = 4) then h else false then decide (y.a = 0) else false) = false) : ¬ ((plainB x = true ∨ x.op = 4) ∧ h = true ∧ y.a = 0) := by
  rintro ⟨h1, h2, h3⟩
  rw [h2, h3] at e
  rcases h1 with h1 | h1
  · rw [h1] at e; simp at e
  · rw [h1] at e; simp at e
theorem pat6 {x y : In} {h : Bool} (e : (bif bif plainB x then h else false then decide (y.a = 1) else false) = true) : plainB x = true ∧ h = true ∧ y.a = 1 := by
  cases hp : plainB x <;> simp_all
theorem pat6' {x y : In} {h : Bool} (e : (bif bif plainB x then h else false then decide (y.a = 1) else false) = false) : ¬ (plainB x = true ∧ h = true ∧ y.a = 1) := by
  rintro ⟨h1, h2, h3⟩
  rw [h1, h2, h3] at e; simp at e
theorem pat3 {x : In} {h : Bool} (e : (bif decide (x.a = 0) then h else false) = true) : h = true ∧ x.a = 0 := by
  by_cases h0 : x.a = 0 <;> simp_all
theorem pat3' {x : In} {h : Bool} (e : (bif decide (x.a = 0) then h else false) = false) : ¬ (h = true ∧ x.a = 0) := by
  rintro ⟨h1, h2⟩
  rw [h1, h2] at e; simp at e
theorem c120 {L : Nat} (h1 : 4096 ≤ L) (h2 : L ≤ 1073741824) {a : An} {k : Nat} (hA : AOk a) (hk : k < a.code.length) : MC Try.prog L 37 [ptr a.data, eI k] [] (Rows (.tup [eI (ruleA a k).1, .c (.rs 0 0 (ruleA a k).2.length)]) [irow (ruleA a k).2]) := by
 refine MC.rows ?_
 have hσ := SGok (nt := 192) h1 (Nat.le_trans h2 (by decide))
 refine MC.body hσ Try.func37 (by kernel_rfl) rfl rfl (Nat.le_of_ble_eq_true rfl) (fun hF => ?_)
 have hl : a.code.length ≤ L := by simpa [As.fact, A.fact, M.fact, D.fact, Ds.fact] using hF.1.2.2.1.1
 refine AWP.seq ?_
 refine AWP.region ?_
 refine AOps.step (Val.of hσ rfl rfl) rfl rfl rfl ?_
 refine AOps.step (Val.of hσ rfl rfl) rfl rfl rfl ?_
 refine AOps.nil ?_
 refine AWP.seq ?_
 refine AWP.region ?_
 refine AOps.step (Val.of hσ rfl rfl) rfl rfl rfl ?_
 refine AOps.step (Val.of hσ rfl rfl) rfl rfl rfl ?_
 refine AOps.step (Val.of hσ rfl rfl) rfl rfl rfl ?_
 refine AOps.step (Val.of hσ rfl rfl) rfl rfl rfl ?_
 refine AOps.step (Val.of hσ rfl rfl) rfl rfl rfl ?_
 refine AOps.nil ?_
 refine AWP.seq ?_
 refine AWP.mid (F := ⟨[(0, ptr a.data), (1, eI k), (6, ains a.code), (7, .c (.pt 7 0 0))], [(7, .box ((a.code.getD k default).cells.map .d))]⟩) ?_ ?_
 ·
  skip
  refine AWP.region ?_
  refine AOps.step (Val.of hσ rfl rfl) rfl rfl rfl ?_
  refine AOps.step (Val.of hσ rfl rfl) rfl rfl rfl ?_
  refine AOps.step (Val.indexN hσ rfl rfl rfl rfl rfl rfl rfl rfl (idxN (n := k) (by omega))) rfl rfl rfl ?_
  refine AOps.step (Val.of hσ rfl rfl) rfl rfl rfl ?_
  refine AOps.heap (HS.alloc hσ rfl rfl rfl rfl rfl) rfl ?_
  refine AOps.heap (HS.storeBox hσ rfl rfl rfl rfl rfl rfl rfl rfl rfl rfl rfl) rfl ?_
  refine AOps.nil ?_
  exact ⟨rfl, Ent.sel (bs := [.box ((a.code.getD k default).cells.map .d)]) [7] rfl rfl ⟨rfl, rfl, rfl, rfl, trivial⟩ rfl⟩
 refine AWP.seq ?_
 refine AWP.seq ?_
 refine AWP.mid (F := ⟨[(32, eB (bif hasR [0, 4] (sgt a.code a.pts k) then num ((a.code.getD k default).a * (a.code.getD (k + 1) default).a) else false)), (0, ptr a.data), (1, eI k), (6, ains a.code), (7, .c (.pt 7 0 0))], [(7, .box ((a.code.getD k default).cells.map .d))]⟩) ?_ ?_
 ·
  skip
  cases hb3 : hasR [0, 4] (sgt a.code a.pts k) with
  | true =>
   have hq := seg_lt hk hb3
   have hq1 : k + 1 < a.code.length := by simp only [List.length_cons, List.length_nil] at hq; omega
   have n0 := seg_num (i := 0) hA hk hb3 (by decide) (.inl rfl)
   have n1 := seg_num (i := 1) hA hk hb3 (by decide) (.inr rfl)
   have hmm := numM n0 n1
   refine AWP.drawG hσ _ [_, _, _, _, _, _, _, _, _, _, _, _, _, _, _, _] [⟨[], 0, 1, none⟩, ⟨[], 0, 1, none⟩, ⟨[], 0, 0, some 0⟩, ⟨[0, 1, 2], 0, 0, some 1⟩, ⟨[0, 1, 2, 3], 2, 2, none⟩, ⟨[0, 1, 2, 3, 4], 2, 2, none⟩, ⟨[0, 1, 2, 3, 4, 5], 2, 2, none⟩, ⟨[0, 1, 2, 3, 4], 2, 2, none⟩, ⟨[0, 1, 2, 3, 4], 2, 2, none⟩, ⟨[0, 1, 2, 3, 4, 8], 2, 2, none⟩, ⟨[0, 1, 2, 3, 4, 7, 8, 9], 2, 2, none⟩, ⟨[0, 1, 2, 3, 4, 7, 8, 9, 10], 2, 2, none⟩, ⟨[0, 1, 2, 3, 4, 7, 8, 9, 10, 11], 2, 2, none⟩, ⟨[0, 1, 2, 3, 4, 5, 6, 7, 8, 9, 10, 11, 12], 2, 2, none⟩, ⟨[0, 1, 2, 3, 4, 5, 6, 7, 8, 9, 10, 11, 12, 13], 0, 0, some 2⟩, ⟨[0, 1, 2, 3, 4, 5, 6, 7, 8, 9, 10, 11, 12, 13, 14], 3, 3, none⟩] [2, 3, 14] [_, _, _, _] rfl rfl (by decide) (by decide) (by kernel_rfl) (And.intro (And.intro (Val.of hσ rfl rfl) (Val.of hσ rfl rfl)) (And.intro (And.intro (Val.of hσ rfl rfl) (Val.of hσ rfl rfl)) (And.intro (Eff.litN hσ rfl rfl rfl rfl rfl rfl rfl rfl rfl rfl rfl rfl rfl) (And.intro (Eff.lone hσ (B0 := 21000) rfl rfl rfl rfl ((c164 (a := a) (k := k) (os := [0, 4]) h1 h2 hk).plain (congrArg eB hb3)) (VAs.cons (.c .d) (.cons (.c .d) (.cons (.c (.whole rfl rfl)) .nil))) rfl rfl rfl rfl rfl) (And.intro (Val.of hσ rfl rfl) (And.intro (Val.of hσ rfl rfl) (And.intro (Val.of hσ rfl rfl) (And.intro (Val.of hσ rfl rfl) (And.intro (Val.of hσ rfl rfl) (And.intro ((Val.fits64 hσ rfl rfl (by first | omega | (simp at *; omega)) (by first | omega | (simp at *; omega))).cast (v' := eI ((k + 1 : Nat) : Int)) (congrArg eI (by omega))) (And.intro (Val.indexN hσ rfl rfl rfl rfl rfl rfl rfl rfl (idxN (n := k + 1) (by omega))) (And.intro (Val.of hσ rfl rfl) (And.intro (Val.of hσ rfl rfl) (And.intro (Val.fits64 hσ rfl rfl (by first | omega | (have := hmm; simp only [Nat.add_zero] at this; omega)) (by first | omega | (have := hmm; simp only [Nat.add_zero] at this; omega))) (And.intro (Eff.lone hσ (B0 := 32000) rfl rfl rfl rfl (c165 (x := (a.code.getD k default).a * (a.code.getD (k + 1) default).a) h1 h2) (VAs.self rfl) rfl rfl rfl rfl rfl) (And.intro (Val.pickY hσ rfl rfl rfl rfl rfl) trivial)))))))))))))))) ?_
   exact ⟨rfl, Ent.sel (bs := [.box ((a.code.getD k default).cells.map .d)]) [7] rfl rfl ⟨rfl, rfl, rfl, rfl, rfl, trivial⟩ rfl⟩
  | false =>
   refine AWP.drawG hσ _ [_, _, _, _, _, _, _, _, _, _, _, _, _, _, _, _] [⟨[], 0, 1, none⟩, ⟨[], 0, 1, none⟩, ⟨[], 0, 0, some 0⟩, ⟨[0, 1, 2], 0, 0, some 1⟩, ⟨[0, 1, 2, 3], 2, 2, none⟩, ⟨[0, 1, 2, 3, 4], 0, 2, none⟩, ⟨[0, 1, 2, 3, 4, 5], 0, 2, none⟩, ⟨[0, 1, 2, 3, 4], 0, 2, none⟩, ⟨[0, 1, 2, 3, 4], 0, 2, none⟩, ⟨[0, 1, 2, 3, 4, 8], 0, 2, none⟩, ⟨[0, 1, 2, 3, 4, 7, 8, 9], 0, 2, none⟩, ⟨[0, 1, 2, 3, 4, 7, 8, 9, 10], 0, 2, none⟩, ⟨[0, 1, 2, 3, 4, 7, 8, 9, 10, 11], 0, 2, none⟩, ⟨[0, 1, 2, 3, 4, 5, 6, 7, 8, 9, 10, 11, 12], 0, 2, none⟩, ⟨[0, 1, 2, 3, 4, 5, 6, 7, 8, 9, 10, 11, 12, 13], 0, 2, none⟩, ⟨[0, 1, 2, 3, 4, 5, 6, 7, 8, 9, 10, 11, 12, 13, 14], 2, 2, none⟩] [2, 3] [_, _, _] rfl rfl (by decide) (by decide) (by kernel_rfl) (And.intro (And.intro (Val.of hσ rfl rfl) (Val.of hσ rfl rfl)) (And.intro (And.intro (Val.of hσ rfl rfl) (Val.of hσ rfl rfl)) (And.intro (Eff.litN hσ rfl rfl rfl rfl rfl rfl rfl rfl rfl rfl rfl rfl rfl) (And.intro (Eff.lone hσ (B0 := 21000) rfl rfl rfl rfl ((c164 (a := a) (k := k) (os := [0, 4]) h1 h2 hk).plain (congrArg eB hb3)) (VAs.cons (.c .d) (.cons (.c .d) (.cons (.c (.whole rfl rfl)) .nil))) rfl rfl rfl rfl rfl) (And.intro (Val.of hσ rfl rfl) (And.intro ⟨rfl, rfl⟩ (And.intro ⟨rfl, rfl⟩ (And.intro ⟨rfl, rfl⟩ (And.intro ⟨rfl, rfl⟩ (And.intro ⟨rfl, rfl⟩ (And.intro ⟨rfl, rfl⟩ (And.intro ⟨rfl, rfl⟩ (And.intro ⟨rfl, rfl⟩ (And.intro ⟨rfl, rfl⟩ (And.intro ⟨rfl, rfl⟩ (And.intro (Val.pickN hσ rfl rfl rfl rfl rfl) trivial)))))))))))))))) ?_
   exact ⟨rfl, Ent.sel (bs := [.box ((a.code.getD k default).cells.map .d)]) [7] rfl rfl ⟨rfl, rfl, rfl, rfl, rfl, trivial⟩ rfl⟩
 refine AWP.cond hσ rfl rfl (fun hc32 => ?_) (fun hc32 => ?_)
 ·
  skip
  refine AWP.seq ?_
  obtain ⟨hb3, hnum3⟩ := bifT hc32
  have hq := seg_lt hk hb3
  have hq1 : k + 1 < a.code.length := by simp only [List.length_cons, List.length_nil] at hq; omega
  have n0 := seg_num (i := 0) hA hk hb3 (by decide) (.inl rfl)
  have n1 := seg_num (i := 1) hA hk hb3 (by decide) (.inr rfl)
  have hmm := numM n0 n1
  refine AWP.drawR hσ _ [_, _, _, _, _, _, _, _, _, _, _, _, _] [⟨[], 0, 0, none⟩, ⟨[0], 0, 0, none⟩, ⟨[], 0, 0, none⟩, ⟨[], 0, 0, none⟩, ⟨[3], 0, 0, none⟩, ⟨[2, 3, 4], 0, 0, none⟩, ⟨[2, 3, 4, 5], 0, 0, none⟩, ⟨[2, 3, 4, 5, 6], 0, 0, none⟩, ⟨[0, 1, 2, 3, 4, 5, 6, 7], 0, 0, none⟩, ⟨[0, 1, 2, 3, 4, 5, 6, 7, 8], 0, 0, none⟩, ⟨[0, 1, 2, 3, 4, 5, 6, 7, 8, 9], 0, 0, some 0⟩, ⟨[], 0, 1, none⟩, ⟨[0, 1, 2, 3, 4, 5, 6, 7, 8, 9, 10, 11], 1, 1, none⟩] [10] [_, _] rfl rfl (by decide) (by decide) (by kernel_rfl) (And.intro (Val.of hσ rfl rfl) (And.intro (Val.of hσ rfl rfl) (And.intro (Val.of hσ rfl rfl) (And.intro (Val.of hσ rfl rfl) (And.intro ((Val.fits64 hσ rfl rfl (by first | omega | (simp at *; omega)) (by first | omega | (simp at *; omega))).cast (v' := eI ((k + 1 : Nat) : Int)) (congrArg eI (by omega))) (And.intro (Val.indexN hσ rfl rfl rfl rfl rfl rfl rfl rfl (idxN (n := k + 1) (by omega))) (And.intro (Val.of hσ rfl rfl) (And.intro (Val.of hσ rfl rfl) (And.intro (Val.fits64 hσ rfl rfl (by first | omega | (have := hmm; simp only [Nat.add_zero] at this; omega)) (by first | omega | (have := hmm; simp only [Nat.add_zero] at this; omega))) (And.intro (Val.of hσ rfl rfl) (And.intro (Eff.litN hσ rfl rfl rfl rfl rfl rfl rfl rfl rfl rfl rfl rfl rfl) (And.intro (And.intro (Val.of hσ rfl rfl) (Val.of hσ rfl rfl)) (And.intro (Val.of hσ rfl rfl) trivial))))))))))))) ?_
  refine AWP.ret ?_
  rw [show ruleA a k = _ from ruleR_code hk]
  unfold ruleC
  rw [if_pos ⟨hb3, hnum3⟩]
  refine ⟨.inl rfl, _, Ent.ownS 43 (xs := ([(⟨0, (a.code.getD k default).a * (a.code.getD (k + 1) default).a⟩ : In)]).map In.cells) rfl in_scal, _, rfl, [43], by decide, rfl, rfl, rfl⟩
 ·
  skip
  refine AWP.skip ?_
  refine AWP.seq ?_
  refine AWP.seq ?_
  refine AWP.mid (F := ⟨[(59, eB (bif hasR [0, 0, 3] (sgt a.code a.pts k) then num ((a.code.getD k default).a + (a.code.getD (k + 1) default).a) else false)), (0, ptr a.data), (1, eI k), (6, ains a.code), (7, .c (.pt 7 0 0))], [(7, .box ((a.code.getD k default).cells.map .d))]⟩) ?_ ?_
  ·
   skip
   cases hb5 : hasR [0, 0, 3] (sgt a.code a.pts k) with
   | true =>
    have hq := seg_lt hk hb5
    have hq1 : k + 1 < a.code.length := by simp only [List.length_cons, List.length_nil] at hq; omega
    have n0 := instr_a (hA.code _ (mem_getD hk))
    have n1 := instr_a (hA.code _ (mem_getD hq1))
    refine AWP.drawG hσ _ [_, _, _, _, _, _, _, _, _, _, _, _, _, _, _, _] [⟨[], 0, 1, none⟩, ⟨[], 0, 1, none⟩, ⟨[], 0, 0, some 0⟩, ⟨[0, 1, 2], 0, 0, some 1⟩, ⟨[0, 1, 2, 3], 2, 2, none⟩, ⟨[0, 1, 2, 3, 4], 2, 2, none⟩, ⟨[0, 1, 2, 3, 4, 5], 2, 2, none⟩, ⟨[0, 1, 2, 3, 4], 2, 2, none⟩, ⟨[0, 1, 2, 3, 4], 2, 2, none⟩, ⟨[0, 1, 2, 3, 4, 8], 2, 2, none⟩, ⟨[0, 1, 2, 3, 4, 7, 8, 9], 2, 2, none⟩, ⟨[0, 1, 2, 3, 4, 7, 8, 9, 10], 2, 2, none⟩, ⟨[0, 1, 2, 3, 4, 7, 8, 9, 10, 11], 2, 2, none⟩, ⟨[0, 1, 2, 3, 4, 5, 6, 7, 8, 9, 10, 11, 12], 2, 2, none⟩, ⟨[0, 1, 2, 3, 4, 5, 6, 7, 8, 9, 10, 11, 12, 13], 0, 0, some 2⟩, ⟨[0, 1, 2, 3, 4, 5, 6, 7, 8, 9, 10, 11, 12, 13, 14], 3, 3, none⟩] [2, 3, 14] [_, _, _, _] rfl rfl (by decide) (by decide) (by kernel_rfl) (And.intro (And.intro (Val.of hσ rfl rfl) (Val.of hσ rfl rfl)) (And.intro (And.intro (Val.of hσ rfl rfl) (Val.of hσ rfl rfl)) (And.intro (Eff.litN hσ rfl rfl rfl rfl rfl rfl rfl rfl rfl rfl rfl rfl rfl) (And.intro (Eff.lone hσ (B0 := 48000) rfl rfl rfl rfl ((c164 (a := a) (k := k) (os := [0, 0, 3]) h1 h2 hk).plain (congrArg eB hb5)) (VAs.cons (.c .d) (.cons (.c .d) (.cons (.c (.whole rfl rfl)) .nil))) rfl rfl rfl rfl rfl) (And.intro (Val.of hσ rfl rfl) (And.intro (Val.of hσ rfl rfl) (And.intro (Val.of hσ rfl rfl) (And.intro (Val.of hσ rfl rfl) (And.intro (Val.of hσ rfl rfl) (And.intro ((Val.fits64 hσ rfl rfl (by first | omega | (simp at *; omega)) (by first | omega | (simp at *; omega))).cast (v' := eI ((k + 1 : Nat) : Int)) (congrArg eI (by omega))) (And.intro (Val.indexN hσ rfl rfl rfl rfl rfl rfl rfl rfl (idxN (n := k + 1) (by omega))) (And.intro (Val.of hσ rfl rfl) (And.intro (Val.of hσ rfl rfl) (And.intro (Val.fits64 hσ rfl rfl (by first | omega | (have := hmm; simp only [Nat.add_zero] at this; omega)) (by first | omega | (have := hmm; simp only [Nat.add_zero] at this; omega))) (And.intro (Eff.lone hσ (B0 := 59000) rfl rfl rfl rfl (c165 (x := (a.code.getD k default).a + (a.code.getD (k + 1) default).a) h1 h2) (VAs.self rfl) rfl rfl rfl rfl rfl) (And.intro (Val.pickY hσ rfl rfl rfl rfl rfl) trivial)))))))))))))))) ?_
    exact ⟨rfl, Ent.sel (bs := [.box ((a.code.getD k default).cells.map .d)]) [7] rfl rfl ⟨rfl, rfl, rfl, rfl, rfl, trivial⟩ rfl⟩
   | false =>
    refine AWP.drawG hσ _ [_, _, _, _, _, _, _, _, _, _, _, _, _, _, _, _] [⟨[], 0, 1, none⟩, ⟨[], 0, 1, none⟩, ⟨[], 0, 0, some 0⟩, ⟨[0, 1, 2], 0, 0, some 1⟩, ⟨[0, 1, 2, 3], 2, 2, none⟩, ⟨[0, 1, 2, 3, 4], 0, 2, none⟩, ⟨[0, 1, 2, 3, 4, 5], 0, 2, none⟩, ⟨[0, 1, 2, 3, 4], 0, 2, none⟩, ⟨[0, 1, 2, 3, 4], 0, 2, none⟩, ⟨[0, 1, 2, 3, 4, 8], 0, 2, none⟩, ⟨[0, 1, 2, 3, 4, 7, 8, 9], 0, 2, none⟩, ⟨[0, 1, 2, 3, 4, 7, 8, 9, 10], 0, 2, none⟩, ⟨[0, 1, 2, 3, 4, 7, 8, 9, 10, 11], 0, 2, none⟩, ⟨[0, 1, 2, 3, 4, 5, 6, 7, 8, 9, 10, 11, 12], 0, 2, none⟩, ⟨[0, 1, 2, 3, 4, 5, 6, 7, 8, 9, 10, 11, 12, 13], 0, 2, none⟩, ⟨[0, 1, 2, 3, 4, 5, 6, 7, 8, 9, 10, 11, 12, 13, 14], 2, 2, none⟩] [2, 3] [_, _, _] rfl rfl (by decide) (by decide) (by kernel_rfl) (And.intro (And.intro (Val.of hσ rfl rfl) (Val.of hσ rfl rfl)) (And.intro (And.intro (Val.of hσ rfl rfl) (Val.of hσ rfl rfl)) (And.intro (Eff.litN hσ rfl rfl rfl rfl rfl rfl rfl rfl rfl rfl rfl rfl rfl) (And.intro (Eff.lone hσ (B0 := 48000) rfl rfl rfl rfl ((c164 (a := a) (k := k) (os := [0, 0, 3]) h1 h2 hk).plain (congrArg eB hb5)) (VAs.cons (.c .d) (.cons (.c .d) (.cons (.c (.whole rfl rfl)) .nil))) rfl rfl rfl rfl rfl) (And.intro (Val.of hσ rfl rfl) (And.intro ⟨rfl, rfl⟩ (And.intro ⟨rfl, rfl⟩ (And.intro ⟨rfl, rfl⟩ (And.intro ⟨rfl, rfl⟩ (And.intro ⟨rfl, rfl⟩ (And.intro ⟨rfl, rfl⟩ (And.intro ⟨rfl, rfl⟩ (And.intro ⟨rfl, rfl⟩ (And.intro ⟨rfl, rfl⟩ (And.intro ⟨rfl, rfl⟩ (And.intro (Val.pickN hσ rfl rfl rfl rfl rfl) trivial)))))))))))))))) ?_
    exact ⟨rfl, Ent.sel (bs := [.box ((a.code.getD k default).cells.map .d)]) [7] rfl rfl ⟨rfl, rfl, rfl, rfl, rfl, trivial⟩ rfl⟩
  refine AWP.cond hσ rfl rfl (fun hc59 => ?_) (fun hc59 => ?_)
  ·
   skip
   refine AWP.seq ?_
   obtain ⟨hb5, hnum5⟩ := bifT hc59
   have hq := seg_lt hk hb5
   have hq1 : k + 1 < a.code.length := by simp only [List.length_cons, List.length_nil] at hq; omega
   have n0 := instr_a (hA.code _ (mem_getD hk))
   have n1 := instr_a (hA.code _ (mem_getD hq1))
   refine AWP.drawR hσ _ [_, _, _, _, _, _, _, _, _, _, _, _, _] [⟨[], 0, 0, none⟩, ⟨[0], 0, 0, none⟩, ⟨[], 0, 0, none⟩, ⟨[], 0, 0, none⟩, ⟨[3], 0, 0, none⟩, ⟨[2, 3, 4], 0, 0, none⟩, ⟨[2, 3, 4, 5], 0, 0, none⟩, ⟨[2, 3, 4, 5, 6], 0, 0, none⟩, ⟨[0, 1, 2, 3, 4, 5, 6, 7], 0, 0, none⟩, ⟨[0, 1, 2, 3, 4, 5, 6, 7, 8], 0, 0, none⟩, ⟨[0, 1, 2, 3, 4, 5, 6, 7, 8, 9], 0, 0, some 0⟩, ⟨[], 0, 1, none⟩, ⟨[0, 1, 2, 3, 4, 5, 6, 7, 8, 9, 10, 11], 1, 1, none⟩] [10] [_, _] rfl rfl (by decide) (by decide) (by kernel_rfl) (And.intro (Val.of hσ rfl rfl) (And.intro (Val.of hσ rfl rfl) (And.intro (Val.of hσ rfl rfl) (And.intro (Val.of hσ rfl rfl) (And.intro ((Val.fits64 hσ rfl rfl (by first | omega | (simp at *; omega)) (by first | omega | (simp at *; omega))).cast (v' := eI ((k + 1 : Nat) : Int)) (congrArg eI (by omega))) (And.intro (Val.indexN hσ rfl rfl rfl rfl rfl rfl rfl rfl (idxN (n := k + 1) (by omega))) (And.intro (Val.of hσ rfl rfl) (And.intro (Val.of hσ rfl rfl) (And.intro (Val.fits64 hσ rfl rfl (by first | omega | (have := hmm; simp only [Nat.add_zero] at this; omega)) (by first | omega | (have := hmm; simp only [Nat.add_zero] at this; omega))) (And.intro (Val.of hσ rfl rfl) (And.intro (Eff.litN hσ rfl rfl rfl rfl rfl rfl rfl rfl rfl rfl rfl rfl rfl) (And.intro (And.intro (Val.of hσ rfl rfl) (Val.of hσ rfl rfl)) (And.intro (Val.of hσ rfl rfl) trivial))))))))))))) ?_
   refine AWP.ret ?_
   rw [show ruleA a k = _ from ruleR_code hk]
   unfold ruleC
   rw [if_neg (andN hc32), if_pos ⟨hb5, hnum5⟩]
   refine ⟨.inl rfl, _, Ent.ownS 70 (xs := ([(⟨0, (a.code.getD k default).a + (a.code.getD (k + 1) default).a⟩ : In)]).map In.cells) rfl in_scal, _, rfl, [70], by decide, rfl, rfl, rfl⟩
  ·
   skip
   refine AWP.skip ?_
   refine AWP.seq ?_
   refine AWP.seq ?_
   obtain ⟨B7, hB7⟩ : ∃ B, B = decide ((a.code.getD k default).a = 0) := ⟨_, rfl⟩
   refine AWP.mid (F := ⟨[(79, eB (bif B7 then hasR [0, 1, 3] (sgt a.code a.pts k) else false)), (0, ptr a.data), (1, eI k), (6, ains a.code), (7, .c (.pt 7 0 0))], [(7, .box ((a.code.getD k default).cells.map .d))]⟩) ?_ ?_
   ·
    skip
    refine AWP.region ?_
    refine AOps.step (Val.of hσ rfl rfl) rfl rfl rfl ?_
    refine AOps.step (Val.of hσ rfl rfl) rfl rfl rfl ?_
    refine AOps.step ((Val.of hσ rfl rfl).cast (v' := eB B7) (congrArg eB hB7.symm)) rfl rfl rfl ?_
    cases hb74 : B7 with
    | true =>
     refine AOps.step (Val.of hσ rfl rfl) rfl rfl rfl ?_
     refine AOps.live rfl rfl rfl rfl rfl ?_
     refine AOps.step (Val.of hσ rfl rfl) rfl rfl rfl ?_
     refine AOps.live rfl rfl rfl rfl rfl ?_
     refine AOps.step (Val.of hσ rfl rfl) rfl rfl rfl ?_
     refine AOps.live rfl rfl rfl rfl rfl ?_
     refine AOps.heap (HS.litD hσ rfl rfl rfl rfl rfl rfl rfl rfl rfl rfl rfl) rfl ?_
     apply AOps.norm
     ·
      repeat' (first | exact HN.nil rfl | apply HN.cons rfl | exact BN.row rfl | exact BN.map rfl | apply BN.box rfl | exact MN.nil rfl | apply MN.cons rfl | exact XN.d rfl | exact XN.rs rfl | exact XN.self)
     refine AOps.live rfl rfl rfl rfl rfl ?_
     refine AOps.lone hσ rfl rfl rfl rfl (c164 (a := a) (k := k) (os := [0, 1, 3]) h1 h2 hk) (VAs.cons (.c .d) (.cons (.c .d) (.cons (.c (.whole rfl rfl)) .nil))) rfl rfl rfl rfl rfl (B0 := 79000) rfl ?_
     refine AOps.step (Val.pickY hσ rfl rfl rfl rfl rfl) rfl rfl rfl ?_
     refine AOps.nil ?_
     exact ⟨rfl, Ent.sel (bs := [.box ((a.code.getD k default).cells.map .d)]) [7] rfl rfl ⟨rfl, rfl, rfl, rfl, rfl, trivial⟩ rfl⟩
    | false =>
     refine AOps.step (Val.of hσ rfl rfl) rfl rfl rfl ?_
     refine AOps.skip rfl rfl rfl rfl rfl rfl ?_
     refine AOps.skip rfl rfl rfl rfl rfl rfl ?_
     refine AOps.skip rfl rfl rfl rfl rfl rfl ?_
     refine AOps.skip rfl rfl rfl rfl rfl rfl ?_
     refine AOps.step (Val.pickN hσ rfl rfl rfl rfl rfl) rfl rfl rfl ?_
     refine AOps.nil ?_
     exact ⟨rfl, Ent.sel (bs := [.box ((a.code.getD k default).cells.map .d)]) [7] rfl rfl ⟨rfl, rfl, rfl, rfl, rfl, trivial⟩ rfl⟩
   refine AWP.cond hσ rfl rfl (fun hc79 => ?_) (fun hc79 => ?_)
   ·
    skip
    refine AWP.seq ?_
    subst hB7
    obtain ⟨hb7, hz7⟩ := pat3 hc79
    have hq := seg_lt hk hb7
    have hq1 : k + 1 < a.code.length := by simp only [List.length_cons, List.length_nil] at hq; omega
    refine AWP.drawR hσ _ [_, _, _, _, _, _, _, _] [⟨[], 0, 0, none⟩, ⟨[], 0, 0, none⟩, ⟨[1], 0, 0, none⟩, ⟨[0, 1, 2], 0, 0, none⟩, ⟨[0, 1, 2, 3], 0, 0, none⟩, ⟨[0, 1, 2, 3, 4], 0, 0, some 0⟩, ⟨[], 0, 1, none⟩, ⟨[0, 1, 2, 3, 4, 5, 6], 1, 1, none⟩] [5] [_, _] rfl rfl (by decide) (by decide) (by kernel_rfl) (And.intro (Val.of hσ rfl rfl) (And.intro (Val.of hσ rfl rfl) (And.intro ((Val.fits64 hσ rfl rfl (by first | omega | (simp at *; omega)) (by first | omega | (simp at *; omega))).cast (v' := eI ((k + 1 : Nat) : Int)) (congrArg eI (by omega))) (And.intro (Val.indexN hσ rfl rfl rfl rfl rfl rfl rfl rfl (idxN (n := k + 1) (by omega))) (And.intro (Val.of hσ rfl rfl) (And.intro (Eff.litN hσ rfl rfl rfl rfl rfl rfl rfl rfl rfl rfl rfl rfl rfl) (And.intro (And.intro (Val.of hσ rfl rfl) (Val.of hσ rfl rfl)) (And.intro (Val.of hσ rfl rfl) trivial)))))))) ?_
    refine AWP.ret ?_
    rw [show ruleA a k = _ from ruleR_code hk]
    unfold ruleC
    rw [if_neg (andN hc32), if_neg (andN hc59), if_pos ⟨hb7, hz7⟩]
    refine ⟨.inl rfl, _, Ent.ownS 85 (xs := ([(a.code.getD (k + 1) default)]).map In.cells) rfl in_scal, _, rfl, [85], by decide, rfl, rfl, rfl⟩
   ·
    skip
    refine AWP.skip ?_
    refine AWP.seq ?_
    refine AWP.seq ?_
    obtain ⟨B9, hB9⟩ : ∃ B, B = decide ((a.code.getD k default).a = 0) := ⟨_, rfl⟩
    refine AWP.mid (F := ⟨[(94, eB (bif B9 then hasR [0, 1, 4, 3] (sgt a.code a.pts k) else false)), (0, ptr a.data), (1, eI k), (6, ains a.code), (7, .c (.pt 7 0 0))], [(7, .box ((a.code.getD k default).cells.map .d))]⟩) ?_ ?_
    ·
     skip
     refine AWP.region ?_
     refine AOps.step (Val.of hσ rfl rfl) rfl rfl rfl ?_
     refine AOps.step (Val.of hσ rfl rfl) rfl rfl rfl ?_
     refine AOps.step ((Val.of hσ rfl rfl).cast (v' := eB B9) (congrArg eB hB9.symm)) rfl rfl rfl ?_
     cases hb89 : B9 with
     | true =>
      refine AOps.step (Val.of hσ rfl rfl) rfl rfl rfl ?_
      refine AOps.live rfl rfl rfl rfl rfl ?_
      refine AOps.step (Val.of hσ rfl rfl) rfl rfl rfl ?_
      refine AOps.live rfl rfl rfl rfl rfl ?_
      refine AOps.step (Val.of hσ rfl rfl) rfl rfl rfl ?_
      refine AOps.live rfl rfl rfl rfl rfl ?_
      refine AOps.heap (HS.litD hσ rfl rfl rfl rfl rfl rfl rfl rfl rfl rfl rfl) rfl ?_
      apply AOps.norm
      ·
       repeat' (first | exact HN.nil rfl | apply HN.cons rfl | exact BN.row rfl | exact BN.map rfl | apply BN.box rfl | exact MN.nil rfl | apply MN.cons rfl | exact XN.d rfl | exact XN.rs rfl | exact XN.self)
      refine AOps.live rfl rfl rfl rfl rfl ?_
      refine AOps.lone hσ rfl rfl rfl rfl (c164 (a := a) (k := k) (os := [0, 1, 4, 3]) h1 h2 hk) (VAs.cons (.c .d) (.cons (.c .d) (.cons (.c (.whole rfl rfl)) .nil))) rfl rfl rfl rfl rfl (B0 := 94000) rfl ?_
      refine AOps.step (Val.pickY hσ rfl rfl rfl rfl rfl) rfl rfl rfl ?_
      refine AOps.nil ?_
      exact ⟨rfl, Ent.sel (bs := [.box ((a.code.getD k default).cells.map .d)]) [7] rfl rfl ⟨rfl, rfl, rfl, rfl, rfl, trivial⟩ rfl⟩
     | false =>
      refine AOps.step (Val.of hσ rfl rfl) rfl rfl rfl ?_
      refine AOps.skip rfl rfl rfl rfl rfl rfl ?_
      refine AOps.skip rfl rfl rfl rfl rfl rfl ?_
      refine AOps.skip rfl rfl rfl rfl rfl rfl ?_
      refine AOps.skip rfl rfl rfl rfl rfl rfl ?_
      refine AOps.step (Val.pickN hσ rfl rfl rfl rfl rfl) rfl rfl rfl ?_
      refine AOps.nil ?_
      exact ⟨rfl, Ent.sel (bs := [.box ((a.code.getD k default).cells.map .d)]) [7] rfl rfl ⟨rfl, rfl, rfl, rfl, rfl, trivial⟩ rfl⟩
    refine AWP.cond hσ rfl rfl (fun hc94 => ?_) (fun hc94 => ?_)
    ·
     skip
     refine AWP.seq ?_
     subst hB9
     obtain ⟨hb9, hz9⟩ := pat3 hc94
     have hq := seg_lt hk hb9
     have hq1 : k + 1 < a.code.length := by simp only [List.length_cons, List.length_nil] at hq; omega
     have hq2 : k + 2 < a.code.length := by simp only [List.length_cons, List.length_nil] at hq; omega
     refine AWP.drawR hσ _ [_, _, _, _, _, _, _, _, _, _, _, _, _] [⟨[], 0, 0, none⟩, ⟨[], 0, 0, none⟩, ⟨[1], 0, 0, none⟩, ⟨[0, 1, 2], 0, 0, none⟩, ⟨[0, 1, 2, 3], 0, 0, none⟩, ⟨[], 0, 0, none⟩, ⟨[], 0, 0, none⟩, ⟨[6], 0, 0, none⟩, ⟨[5, 6, 7], 0, 0, none⟩, ⟨[5, 6, 7, 8], 0, 0, none⟩, ⟨[0, 1, 2, 3, 4, 5, 6, 7, 8, 9], 0, 0, some 0⟩, ⟨[], 0, 1, none⟩, ⟨[0, 1, 2, 3, 4, 5, 6, 7, 8, 9, 10, 11], 1, 1, none⟩] [10] [_, _] rfl rfl (by decide) (by decide) (by kernel_rfl) (And.intro (Val.of hσ rfl rfl) (And.intro (Val.of hσ rfl rfl) (And.intro ((Val.fits64 hσ rfl rfl (by first | omega | (simp at *; omega)) (by first | omega | (simp at *; omega))).cast (v' := eI ((k + 1 : Nat) : Int)) (congrArg eI (by omega))) (And.intro (Val.indexN hσ rfl rfl rfl rfl rfl rfl rfl rfl (idxN (n := k + 1) (by omega))) (And.intro (Val.of hσ rfl rfl) (And.intro (Val.of hσ rfl rfl) (And.intro (Val.of hσ rfl rfl) (And.intro ((Val.fits64 hσ rfl rfl (by first | omega | (simp at *; omega)) (by first | omega | (simp at *; omega))).cast (v' := eI ((k + 2 : Nat) : Int)) (congrArg eI (by omega))) (And.intro (Val.indexN hσ rfl rfl rfl rfl rfl rfl rfl rfl (idxN (n := k + 2) (by omega))) (And.intro (Val.of hσ rfl rfl) (And.intro (Eff.litN hσ rfl rfl rfl rfl rfl rfl rfl rfl rfl rfl rfl rfl rfl) (And.intro (And.intro (Val.of hσ rfl rfl) (Val.of hσ rfl rfl)) (And.intro (Val.of hσ rfl rfl) trivial))))))))))))) ?_
     refine AWP.ret ?_
     subst hB7
     rw [show ruleA a k = _ from ruleR_code hk]
     unfold ruleC
     rw [if_neg (andN hc32), if_neg (andN hc59), if_neg (pat3' hc79), if_pos ⟨hb9, hz9⟩]
     refine ⟨.inl rfl, _, Ent.ownS 105 (xs := ([(a.code.getD (k + 1) default), (a.code.getD (k + 2) default)]).map In.cells) rfl in_scal, _, rfl, [105], by decide, rfl, rfl, rfl⟩
    ·
     skip
     refine AWP.skip ?_
     refine AWP.seq ?_
     refine AWP.mid (F := ⟨[(8, eB (bif bif decide ((a.code.getD k default).op = 1) then true else decide ((a.code.getD k default).op = 3) then true else decide ((a.code.getD k default).op = 7))), (0, ptr a.data), (1, eI k), (6, ains a.code), (7, .c (.pt 7 0 0))], [(7, .box ((a.code.getD k default).cells.map .d))]⟩) ?_ ?_
     ·
      skip
      refine AWP.region ?_
      refine AOps.step (Val.of hσ rfl rfl) rfl rfl rfl ?_
      refine AOps.step (Val.of hσ rfl rfl) rfl rfl rfl ?_
      refine AOps.step (Val.of hσ rfl rfl) rfl rfl rfl ?_
      cases hb109 : decide ((a.code.getD k default).op = 1) with
      | true =>
       refine AOps.step (Val.of hσ rfl rfl) rfl rfl rfl ?_
       refine AOps.skip rfl rfl rfl rfl rfl rfl ?_
       refine AOps.skip rfl rfl rfl rfl rfl rfl ?_
       refine AOps.skip rfl rfl rfl rfl rfl rfl ?_
       refine AOps.step (Val.pickY hσ rfl rfl rfl rfl rfl) rfl rfl rfl ?_
       refine AOps.step (Val.of hσ rfl rfl) rfl rfl rfl ?_
       refine AOps.skip rfl rfl rfl rfl rfl rfl ?_
       refine AOps.skip rfl rfl rfl rfl rfl rfl ?_
       refine AOps.skip rfl rfl rfl rfl rfl rfl ?_
       refine AOps.step (Val.pickY hσ rfl rfl rfl rfl rfl) rfl rfl rfl ?_
       refine AOps.step (Val.of hσ rfl rfl) rfl rfl rfl ?_
       refine AOps.nil ?_
       exact ⟨rfl, Ent.sel (bs := [.box ((a.code.getD k default).cells.map .d)]) [7] rfl rfl ⟨rfl, rfl, rfl, rfl, rfl, trivial⟩ rfl⟩
      | false =>
       refine AOps.step (Val.of hσ rfl rfl) rfl rfl rfl ?_
       refine AOps.live rfl rfl rfl rfl rfl ?_
       refine AOps.step (Val.of hσ rfl rfl) rfl rfl rfl ?_
       refine AOps.live rfl rfl rfl rfl rfl ?_
       refine AOps.step (Val.of hσ rfl rfl) rfl rfl rfl ?_
       refine AOps.live rfl rfl rfl rfl rfl ?_
       refine AOps.step (Val.of hσ rfl rfl) rfl rfl rfl ?_
       refine AOps.step (Val.pickN hσ rfl rfl rfl rfl rfl) rfl rfl rfl ?_
       cases hb114 : decide ((a.code.getD k default).op = 3) with
       | true =>
        refine AOps.step (Val.of hσ rfl rfl) rfl rfl rfl ?_
        refine AOps.skip rfl rfl rfl rfl rfl rfl ?_
        refine AOps.skip rfl rfl rfl rfl rfl rfl ?_
        refine AOps.skip rfl rfl rfl rfl rfl rfl ?_
        refine AOps.step (Val.pickY hσ rfl rfl rfl rfl rfl) rfl rfl rfl ?_
        refine AOps.step (Val.of hσ rfl rfl) rfl rfl rfl ?_
        refine AOps.nil ?_
        exact ⟨rfl, Ent.sel (bs := [.box ((a.code.getD k default).cells.map .d)]) [7] rfl rfl ⟨rfl, rfl, rfl, rfl, rfl, trivial⟩ rfl⟩
       | false =>
        refine AOps.step (Val.of hσ rfl rfl) rfl rfl rfl ?_
        refine AOps.live rfl rfl rfl rfl rfl ?_
        refine AOps.step (Val.of hσ rfl rfl) rfl rfl rfl ?_
        refine AOps.live rfl rfl rfl rfl rfl ?_
        refine AOps.step (Val.of hσ rfl rfl) rfl rfl rfl ?_
        refine AOps.live rfl rfl rfl rfl rfl ?_
        refine AOps.step (Val.of hσ rfl rfl) rfl rfl rfl ?_
        refine AOps.step (Val.pickN hσ rfl rfl rfl rfl rfl) rfl rfl rfl ?_
        refine AOps.step (Val.of hσ rfl rfl) rfl rfl rfl ?_
        refine AOps.nil ?_
        exact ⟨rfl, Ent.sel (bs := [.box ((a.code.getD k default).cells.map .d)]) [7] rfl rfl ⟨rfl, rfl, rfl, rfl, rfl, trivial⟩ rfl⟩
     refine AWP.seq ?_
     refine AWP.seq ?_
     rw [plain_bif]
     refine AWP.mid (F := ⟨[(141, eB (bif (bif bif plainB (a.code.getD k default) then true else decide ((a.code.getD k default).op = 4) then hasR [(a.code.getD k default).op, 0, 3] (sgt a.code a.pts k) else false) then decide ((a.code.getD (k + 1) default).a = 0) else false)), (8, eB (plainB (a.code.getD k default))), (0, ptr a.data), (1, eI k), (6, ains a.code), (7, .c (.pt 7 0 0))], [(7, .box ((a.code.getD k default).cells.map .d))]⟩) ?_ ?_
     ·
      skip
      refine AWP.region ?_
      refine AOps.step (Val.of hσ rfl rfl) rfl rfl rfl ?_
      cases hb120 : plainB (a.code.getD k default) with
      | true =>
       refine AOps.step (Val.of hσ rfl rfl) rfl rfl rfl ?_
       refine AOps.skip rfl rfl rfl rfl rfl rfl ?_
       refine AOps.skip rfl rfl rfl rfl rfl rfl ?_
       refine AOps.skip rfl rfl rfl rfl rfl rfl ?_
       refine AOps.step (Val.pickY hσ rfl rfl rfl rfl rfl) rfl rfl rfl ?_
       refine AOps.step (Val.of hσ rfl rfl) rfl rfl rfl ?_
       refine AOps.live rfl rfl rfl rfl rfl ?_
       refine AOps.step (Val.of hσ rfl rfl) rfl rfl rfl ?_
       refine AOps.live rfl rfl rfl rfl rfl ?_
       refine AOps.step (Val.of hσ rfl rfl) rfl rfl rfl ?_
       refine AOps.live rfl rfl rfl rfl rfl ?_
       refine AOps.step (Val.of hσ rfl rfl) rfl rfl rfl ?_
       refine AOps.live rfl rfl rfl rfl rfl ?_
       refine AOps.step (Val.of hσ rfl rfl) rfl rfl rfl ?_
       refine AOps.live rfl rfl rfl rfl rfl ?_
       refine AOps.heap (HS.litD hσ rfl rfl rfl rfl rfl rfl rfl rfl rfl rfl rfl) rfl ?_
       apply AOps.norm
       ·
        repeat' (first | exact HN.nil rfl | apply HN.cons rfl | exact BN.row rfl | exact BN.map rfl | apply BN.box rfl | exact MN.nil rfl | apply MN.cons rfl | exact XN.d rfl | exact XN.rs rfl | exact XN.self)
       refine AOps.live rfl rfl rfl rfl rfl ?_
       refine AOps.lone hσ rfl rfl rfl rfl (c164 (a := a) (k := k) (os := [(a.code.getD k default).op, 0, 3]) h1 h2 hk) (VAs.cons (.c .d) (.cons (.c .d) (.cons (.c (.whole rfl rfl)) .nil))) rfl rfl rfl rfl rfl (B0 := 132000) rfl ?_
       refine AOps.step (Val.pickY hσ rfl rfl rfl rfl rfl) rfl rfl rfl ?_
       cases hb133 : hasR [(a.code.getD k default).op, 0, 3] (sgt a.code a.pts k) with
       | true =>
        have hq := seg_lt hk hb133
        have hq1 : k + 1 < a.code.length := by simp only [List.length_cons, List.length_nil] at hq; omega
        refine AOps.step (Val.of hσ rfl rfl) rfl rfl rfl ?_
        refine AOps.live rfl rfl rfl rfl rfl ?_
        refine AOps.step (Val.of hσ rfl rfl) rfl rfl rfl ?_
        refine AOps.live rfl rfl rfl rfl rfl ?_
        refine AOps.step (Val.of hσ rfl rfl) rfl rfl rfl ?_
        refine AOps.live rfl rfl rfl rfl rfl ?_
        refine AOps.step ((Val.fits64 hσ rfl rfl (by first | omega | (simp at *; omega)) (by first | omega | (simp at *; omega))).cast (v' := eI ((k + 1 : Nat) : Int)) (congrArg eI (by omega))) rfl rfl rfl ?_
        refine AOps.live rfl rfl rfl rfl rfl ?_
        refine AOps.step (Val.indexN hσ rfl rfl rfl rfl rfl rfl rfl rfl (idxN (n := k + 1) (by omega))) rfl rfl rfl ?_
        refine AOps.live rfl rfl rfl rfl rfl ?_
        refine AOps.step (Val.of hσ rfl rfl) rfl rfl rfl ?_
        refine AOps.live rfl rfl rfl rfl rfl ?_
        refine AOps.step (Val.of hσ rfl rfl) rfl rfl rfl ?_
        refine AOps.live rfl rfl rfl rfl rfl ?_
        refine AOps.step (Val.of hσ rfl rfl) rfl rfl rfl ?_
        refine AOps.step (Val.pickY hσ rfl rfl rfl rfl rfl) rfl rfl rfl ?_
        refine AOps.nil ?_
        exact ⟨rfl, Ent.sel (bs := [.box ((a.code.getD k default).cells.map .d)]) [7] rfl rfl ⟨rfl, rfl, rfl, rfl, rfl, rfl, trivial⟩ rfl⟩
       | false =>
        refine AOps.step (Val.of hσ rfl rfl) rfl rfl rfl ?_
        refine AOps.skip rfl rfl rfl rfl rfl rfl ?_
        refine AOps.skip rfl rfl rfl rfl rfl rfl ?_
        refine AOps.skip rfl rfl rfl rfl rfl rfl ?_
        refine AOps.skip rfl rfl rfl rfl rfl rfl ?_
        refine AOps.skip rfl rfl rfl rfl rfl rfl ?_
        refine AOps.skip rfl rfl rfl rfl rfl rfl ?_
        refine AOps.skip rfl rfl rfl rfl rfl rfl ?_
        refine AOps.step (Val.pickN hσ rfl rfl rfl rfl rfl) rfl rfl rfl ?_
        refine AOps.nil ?_
        exact ⟨rfl, Ent.sel (bs := [.box ((a.code.getD k default).cells.map .d)]) [7] rfl rfl ⟨rfl, rfl, rfl, rfl, rfl, rfl, trivial⟩ rfl⟩
      | false =>
       refine AOps.step (Val.of hσ rfl rfl) rfl rfl rfl ?_
       refine AOps.live rfl rfl rfl rfl rfl ?_
       refine AOps.step (Val.of hσ rfl rfl) rfl rfl rfl ?_
       refine AOps.live rfl rfl rfl rfl rfl ?_
       refine AOps.step (Val.of hσ rfl rfl) rfl rfl rfl ?_
       refine AOps.live rfl rfl rfl rfl rfl ?_
       refine AOps.step (Val.of hσ rfl rfl) rfl rfl rfl ?_
       refine AOps.step (Val.pickN hσ rfl rfl rfl rfl rfl) rfl rfl rfl ?_
       cases hb125 : decide ((a.code.getD k default).op = 4) with
       | true =>
        refine AOps.step (Val.of hσ rfl rfl) rfl rfl rfl ?_
        refine AOps.live rfl rfl rfl rfl rfl ?_
        refine AOps.step (Val.of hσ rfl rfl) rfl rfl rfl ?_
        refine AOps.live rfl rfl rfl rfl rfl ?_
        refine AOps.step (Val.of hσ rfl rfl) rfl rfl rfl ?_
        refine AOps.live rfl rfl rfl rfl rfl ?_
        refine AOps.step (Val.of hσ rfl rfl) rfl rfl rfl ?_
        refine AOps.live rfl rfl rfl rfl rfl ?_
        refine AOps.step (Val.of hσ rfl rfl) rfl rfl rfl ?_
        refine AOps.live rfl rfl rfl rfl rfl ?_
        refine AOps.heap (HS.litD hσ rfl rfl rfl rfl rfl rfl rfl rfl rfl rfl rfl) rfl ?_
        apply AOps.norm
        ·
         repeat' (first | exact HN.nil rfl | apply HN.cons rfl | exact BN.row rfl | exact BN.map rfl | apply BN.box rfl | exact MN.nil rfl | apply MN.cons rfl | exact XN.d rfl | exact XN.rs rfl | exact XN.self)
        refine AOps.live rfl rfl rfl rfl rfl ?_
        refine AOps.lone hσ rfl rfl rfl rfl (c164 (a := a) (k := k) (os := [(a.code.getD k default).op, 0, 3]) h1 h2 hk) (VAs.cons (.c .d) (.cons (.c .d) (.cons (.c (.whole rfl rfl)) .nil))) rfl rfl rfl rfl rfl (B0 := 132000) rfl ?_
        refine AOps.step (Val.pickY hσ rfl rfl rfl rfl rfl) rfl rfl rfl ?_
        cases hb133 : hasR [(a.code.getD k default).op, 0, 3] (sgt a.code a.pts k) with
        | true =>
         have hq := seg_lt hk hb133
         have hq1 : k + 1 < a.code.length := by simp only [List.length_cons, List.length_nil] at hq; omega
         refine AOps.step (Val.of hσ rfl rfl) rfl rfl rfl ?_
         refine AOps.live rfl rfl rfl rfl rfl ?_
         refine AOps.step (Val.of hσ rfl rfl) rfl rfl rfl ?_
         refine AOps.live rfl rfl rfl rfl rfl ?_
         refine AOps.step (Val.of hσ rfl rfl) rfl rfl rfl ?_
         refine AOps.live rfl rfl rfl rfl rfl ?_
         refine AOps.step ((Val.fits64 hσ rfl rfl (by first | omega | (simp at *; omega)) (by first | omega | (simp at *; omega))).cast (v' := eI ((k + 1 : Nat) : Int)) (congrArg eI (by omega))) rfl rfl rfl ?_
         refine AOps.live rfl rfl rfl rfl rfl ?_
         refine AOps.step (Val.indexN hσ rfl rfl rfl rfl rfl rfl rfl rfl (idxN (n := k + 1) (by omega))) rfl rfl rfl ?_
         refine AOps.live rfl rfl rfl rfl rfl ?_
         refine AOps.step (Val.of hσ rfl rfl) rfl rfl rfl ?_
         refine AOps.live rfl rfl rfl rfl rfl ?_
         refine AOps.step (Val.of hσ rfl rfl) rfl rfl rfl ?_
         refine AOps.live rfl rfl rfl rfl rfl ?_
         refine AOps.step (Val.of hσ rfl rfl) rfl rfl rfl ?_
         refine AOps.step (Val.pickY hσ rfl rfl rfl rfl rfl) rfl rfl rfl ?_
         refine AOps.nil ?_
         exact ⟨rfl, Ent.sel (bs := [.box ((a.code.getD k default).cells.map .d)]) [7] rfl rfl ⟨rfl, rfl, rfl, rfl, rfl, rfl, trivial⟩ rfl⟩
        | false =>
         refine AOps.step (Val.of hσ rfl rfl) rfl rfl rfl ?_
         refine AOps.skip rfl rfl rfl rfl rfl rfl ?_
         refine AOps.skip rfl rfl rfl rfl rfl rfl ?_
         refine AOps.skip rfl rfl rfl rfl rfl rfl ?_
         refine AOps.skip rfl rfl rfl rfl rfl rfl ?_
         refine AOps.skip rfl rfl rfl rfl rfl rfl ?_
         refine AOps.skip rfl rfl rfl rfl rfl rfl ?_
         refine AOps.skip rfl rfl rfl rfl rfl rfl ?_
         refine AOps.step (Val.pickN hσ rfl rfl rfl rfl rfl) rfl rfl rfl ?_
         refine AOps.nil ?_
         exact ⟨rfl, Ent.sel (bs := [.box ((a.code.getD k default).cells.map .d)]) [7] rfl rfl ⟨rfl, rfl, rfl, rfl, rfl, rfl, trivial⟩ rfl⟩
       | false =>
        refine AOps.step (Val.of hσ rfl rfl) rfl rfl rfl ?_
        refine AOps.skip rfl rfl rfl rfl rfl rfl ?_
        refine AOps.skip rfl rfl rfl rfl rfl rfl ?_
        refine AOps.skip rfl rfl rfl rfl rfl rfl ?_
        refine AOps.skip rfl rfl rfl rfl rfl rfl ?_
        refine AOps.skip rfl rfl rfl rfl rfl rfl ?_
        refine AOps.skip rfl rfl rfl rfl rfl rfl ?_
        refine AOps.step (Val.pickN hσ rfl rfl rfl rfl rfl) rfl rfl rfl ?_
        refine AOps.step (Val.of hσ rfl rfl) rfl rfl rfl ?_
        refine AOps.skip rfl rfl rfl rfl rfl rfl ?_
        refine AOps.skip rfl rfl rfl rfl rfl rfl ?_
        refine AOps.skip rfl rfl rfl rfl rfl rfl ?_
        refine AOps.skip rfl rfl rfl rfl rfl rfl ?_
        refine AOps.skip rfl rfl rfl rfl rfl rfl ?_
        refine AOps.skip rfl rfl rfl rfl rfl rfl ?_
        refine AOps.skip rfl rfl rfl rfl rfl rfl ?_
        refine AOps.step (Val.pickN hσ rfl rfl rfl rfl rfl) rfl rfl rfl ?_
        refine AOps.nil ?_
        exact ⟨rfl, Ent.sel (bs := [.box ((a.code.getD k default).cells.map .d)]) [7] rfl rfl ⟨rfl, rfl, rfl, rfl, rfl, rfl, trivial⟩ rfl⟩
     refine AWP.cond hσ rfl rfl (fun hc141 => ?_) (fun hc141 => ?_)
     ·
      skip
      refine AWP.seq ?_
      refine AWP.drawR hσ _ [_, _, _, _] [⟨[], 0, 0, none⟩, ⟨[0], 0, 0, some 0⟩, ⟨[], 0, 1, none⟩, ⟨[0, 1, 2], 1, 1, none⟩] [1] [_, _] rfl rfl (by decide) (by decide) (by kernel_rfl) (And.intro (Val.of hσ rfl rfl) (And.intro (Eff.litN hσ rfl rfl rfl rfl rfl rfl rfl rfl rfl rfl rfl rfl rfl) (And.intro (And.intro (Val.of hσ rfl rfl) (Val.of hσ rfl rfl)) (And.intro (Val.of hσ rfl rfl) trivial)))) ?_
      refine AWP.ret ?_
      subst hB7
      subst hB9
      rw [show ruleA a k = _ from ruleR_code hk]
      unfold ruleC
      rw [if_neg (andN hc32), if_neg (andN hc59), if_neg (pat3' hc79), if_neg (pat3' hc94), if_pos (pat5 hc141)]
      refine ⟨.inl rfl, _, Ent.ownS 143 (xs := ([(a.code.getD k default)]).map In.cells) rfl in_scal, _, rfl, [143], by decide, rfl, rfl, rfl⟩
     ·
      skip
      refine AWP.skip ?_
      refine AWP.seq ?_
      refine AWP.seq ?_
      refine AWP.mid (F := ⟨[(161, eB (bif (bif plainB (a.code.getD k default) then hasR [(a.code.getD k default).op, 4] (sgt a.code a.pts k) else false) then decide ((a.code.getD (k + 1) default).a = 1) else false)), (8, eB (plainB (a.code.getD k default))), (0, ptr a.data), (1, eI k), (6, ains a.code), (7, .c (.pt 7 0 0))], [(7, .box ((a.code.getD k default).cells.map .d))]⟩) ?_ ?_
      ·
       skip
       refine AWP.region ?_
       refine AOps.step (Val.of hσ rfl rfl) rfl rfl rfl ?_
       cases hb145 : plainB (a.code.getD k default) with
       | true =>
        refine AOps.step (Val.of hσ rfl rfl) rfl rfl rfl ?_
        refine AOps.live rfl rfl rfl rfl rfl ?_
        refine AOps.step (Val.of hσ rfl rfl) rfl rfl rfl ?_
        refine AOps.live rfl rfl rfl rfl rfl ?_
        refine AOps.step (Val.of hσ rfl rfl) rfl rfl rfl ?_
        refine AOps.live rfl rfl rfl rfl rfl ?_
        refine AOps.step (Val.of hσ rfl rfl) rfl rfl rfl ?_
        refine AOps.live rfl rfl rfl rfl rfl ?_
        refine AOps.step (Val.of hσ rfl rfl) rfl rfl rfl ?_
        refine AOps.live rfl rfl rfl rfl rfl ?_
        refine AOps.heap (HS.litD hσ rfl rfl rfl rfl rfl rfl rfl rfl rfl rfl rfl) rfl ?_
        apply AOps.norm
        ·
         repeat' (first | exact HN.nil rfl | apply HN.cons rfl | exact BN.row rfl | exact BN.map rfl | apply BN.box rfl | exact MN.nil rfl | apply MN.cons rfl | exact XN.d rfl | exact XN.rs rfl | exact XN.self)
        refine AOps.live rfl rfl rfl rfl rfl ?_
        refine AOps.lone hσ rfl rfl rfl rfl (c164 (a := a) (k := k) (os := [(a.code.getD k default).op, 4]) h1 h2 hk) (VAs.cons (.c .d) (.cons (.c .d) (.cons (.c (.whole rfl rfl)) .nil))) rfl rfl rfl rfl rfl (B0 := 152000) rfl ?_
        refine AOps.step (Val.pickY hσ rfl rfl rfl rfl rfl) rfl rfl rfl ?_
        cases hb153 : hasR [(a.code.getD k default).op, 4] (sgt a.code a.pts k) with
        | true =>
         have hq := seg_lt hk hb153
         have hq1 : k + 1 < a.code.length := by simp only [List.length_cons, List.length_nil] at hq; omega
         refine AOps.step (Val.of hσ rfl rfl) rfl rfl rfl ?_
         refine AOps.live rfl rfl rfl rfl rfl ?_
         refine AOps.step (Val.of hσ rfl rfl) rfl rfl rfl ?_
         refine AOps.live rfl rfl rfl rfl rfl ?_
         refine AOps.step (Val.of hσ rfl rfl) rfl rfl rfl ?_
         refine AOps.live rfl rfl rfl rfl rfl ?_
         refine AOps.step ((Val.fits64 hσ rfl rfl (by first | omega | (simp at *; omega)) (by first | omega | (simp at *; omega))).cast (v' := eI ((k + 1 : Nat) : Int)) (congrArg eI (by omega))) rfl rfl rfl ?_
         refine AOps.live rfl rfl rfl rfl rfl ?_
         refine AOps.step (Val.indexN hσ rfl rfl rfl rfl rfl rfl rfl rfl (idxN (n := k + 1) (by omega))) rfl rfl rfl ?_
         refine AOps.live rfl rfl rfl rfl rfl ?_
         refine AOps.step (Val.of hσ rfl rfl) rfl rfl rfl ?_
         refine AOps.live rfl rfl rfl rfl rfl ?_
         refine AOps.step (Val.of hσ rfl rfl) rfl rfl rfl ?_
         refine AOps.live rfl rfl rfl rfl rfl ?_
         refine AOps.step (Val.of hσ rfl rfl) rfl rfl rfl ?_
         refine AOps.step (Val.pickY hσ rfl rfl rfl rfl rfl) rfl rfl rfl ?_
         refine AOps.nil ?_
         exact ⟨rfl, Ent.sel (bs := [.box ((a.code.getD k default).cells.map .d)]) [7] rfl rfl ⟨rfl, rfl, rfl, rfl, rfl, rfl, trivial⟩ rfl⟩
        | false =>
         refine AOps.step (Val.of hσ rfl rfl) rfl rfl rfl ?_
         refine AOps.skip rfl rfl rfl rfl rfl rfl ?_
         refine AOps.skip rfl rfl rfl rfl rfl rfl ?_
         refine AOps.skip rfl rfl rfl rfl rfl rfl ?_
         refine AOps.skip rfl rfl rfl rfl rfl rfl ?_
         refine AOps.skip rfl rfl rfl rfl rfl rfl ?_
         refine AOps.skip rfl rfl rfl rfl rfl rfl ?_
         refine AOps.skip rfl rfl rfl rfl rfl rfl ?_
         refine AOps.step (Val.pickN hσ rfl rfl rfl rfl rfl) rfl rfl rfl ?_
         refine AOps.nil ?_
         exact ⟨rfl, Ent.sel (bs := [.box ((a.code.getD k default).cells.map .d)]) [7] rfl rfl ⟨rfl, rfl, rfl, rfl, rfl, rfl, trivial⟩ rfl⟩
       | false =>
        refine AOps.step (Val.of hσ rfl rfl) rfl rfl rfl ?_
        refine AOps.skip rfl rfl rfl rfl rfl rfl ?_
        refine AOps.skip rfl rfl rfl rfl rfl rfl ?_
        refine AOps.skip rfl rfl rfl rfl rfl rfl ?_
        refine AOps.skip rfl rfl rfl rfl rfl rfl ?_
        refine AOps.skip rfl rfl rfl rfl rfl rfl ?_
        refine AOps.skip rfl rfl rfl rfl rfl rfl ?_
        refine AOps.step (Val.pickN hσ rfl rfl rfl rfl rfl) rfl rfl rfl ?_
        refine AOps.step (Val.of hσ rfl rfl) rfl rfl rfl ?_
        refine AOps.skip rfl rfl rfl rfl rfl rfl ?_
        refine AOps.skip rfl rfl rfl rfl rfl rfl ?_
        refine AOps.skip rfl rfl rfl rfl rfl rfl ?_
        refine AOps.skip rfl rfl rfl rfl rfl rfl ?_
        refine AOps.skip rfl rfl rfl rfl rfl rfl ?_
        refine AOps.skip rfl rfl rfl rfl rfl rfl ?_
        refine AOps.skip rfl rfl rfl rfl rfl rfl ?_
        refine AOps.step (Val.pickN hσ rfl rfl rfl rfl rfl) rfl rfl rfl ?_
        refine AOps.nil ?_
        exact ⟨rfl, Ent.sel (bs := [.box ((a.code.getD k default).cells.map .d)]) [7] rfl rfl ⟨rfl, rfl, rfl, rfl, rfl, rfl, trivial⟩ rfl⟩
      refine AWP.cond hσ rfl rfl (fun hc161 => ?_) (fun hc161 => ?_)
      ·
       skip
       refine AWP.seq ?_
       refine AWP.drawR hσ _ [_, _, _, _] [⟨[], 0, 0, none⟩, ⟨[0], 0, 0, some 0⟩, ⟨[], 0, 1, none⟩, ⟨[0, 1, 2], 1, 1, none⟩] [1] [_, _] rfl rfl (by decide) (by decide) (by kernel_rfl) (And.intro (Val.of hσ rfl rfl) (And.intro (Eff.litN hσ rfl rfl rfl rfl rfl rfl rfl rfl rfl rfl rfl rfl rfl) (And.intro (And.intro (Val.of hσ rfl rfl) (Val.of hσ rfl rfl)) (And.intro (Val.of hσ rfl rfl) trivial)))) ?_
       refine AWP.ret ?_
       subst hB7
       subst hB9
       rw [show ruleA a k = _ from ruleR_code hk]
       unfold ruleC
       rw [if_neg (andN hc32), if_neg (andN hc59), if_neg (pat3' hc79), if_neg (pat3' hc94), if_neg (pat5' hc141), if_pos (pat6 hc161)]
       refine ⟨.inl rfl, _, Ent.ownS 163 (xs := ([(a.code.getD k default)]).map In.cells) rfl in_scal, _, rfl, [163], by decide, rfl, rfl, rfl⟩
      ·
       skip
       refine AWP.skip ?_
       refine AWP.seq ?_
       refine AWP.seq ?_
       refine AWP.mid (F := ⟨[(179, eB (bif hasR [4, 4] (sgt a.code a.pts k) then num ((a.code.getD k default).a * (a.code.getD (k + 1) default).a) else false)), (0, ptr a.data), (1, eI k), (6, ains a.code), (7, .c (.pt 7 0 0))], [(7, .box ((a.code.getD k default).cells.map .d))]⟩) ?_ ?_
       ·
        skip
        cases hb16 : hasR [4, 4] (sgt a.code a.pts k) with
        | true =>
         have hq := seg_lt hk hb16
         have hq1 : k + 1 < a.code.length := by simp only [List.length_cons, List.length_nil] at hq; omega
         have n0 := seg_num (i := 0) hA hk hb16 (by decide) (.inr rfl)
         have n1 := seg_num (i := 1) hA hk hb16 (by decide) (.inr rfl)
         have hmm := numM n0 n1
         refine AWP.drawG hσ _ [_, _, _, _, _, _, _, _, _, _, _, _, _, _, _, _] [⟨[], 0, 1, none⟩, ⟨[], 0, 1, none⟩, ⟨[], 0, 0, some 0⟩, ⟨[0, 1, 2], 0, 0, some 1⟩, ⟨[0, 1, 2, 3], 2, 2, none⟩, ⟨[0, 1, 2, 3, 4], 2, 2, none⟩, ⟨[0, 1, 2, 3, 4, 5], 2, 2, none⟩, ⟨[0, 1, 2, 3, 4], 2, 2, none⟩, ⟨[0, 1, 2, 3, 4], 2, 2, none⟩, ⟨[0, 1, 2, 3, 4, 8], 2, 2, none⟩, ⟨[0, 1, 2, 3, 4, 7, 8, 9], 2, 2, none⟩, ⟨[0, 1, 2, 3, 4, 7, 8, 9, 10], 2, 2, none⟩, ⟨[0, 1, 2, 3, 4, 7, 8, 9, 10, 11], 2, 2, none⟩, ⟨[0, 1, 2, 3, 4, 5, 6, 7, 8, 9, 10, 11, 12], 2, 2, none⟩, ⟨[0, 1, 2, 3, 4, 5, 6, 7, 8, 9, 10, 11, 12, 13], 0, 0, some 2⟩, ⟨[0, 1, 2, 3, 4, 5, 6, 7, 8, 9, 10, 11, 12, 13, 14], 3, 3, none⟩] [2, 3, 14] [_, _, _, _] rfl rfl (by decide) (by decide) (by kernel_rfl) (And.intro (And.intro (Val.of hσ rfl rfl) (Val.of hσ rfl rfl)) (And.intro (And.intro (Val.of hσ rfl rfl) (Val.of hσ rfl rfl)) (And.intro (Eff.litN hσ rfl rfl rfl rfl rfl rfl rfl rfl rfl rfl rfl rfl rfl) (And.intro (Eff.lone hσ (B0 := 168000) rfl rfl rfl rfl ((c164 (a := a) (k := k) (os := [4, 4]) h1 h2 hk).plain (congrArg eB hb16)) (VAs.cons (.c .d) (.cons (.c .d) (.cons (.c (.whole rfl rfl)) .nil))) rfl rfl rfl rfl rfl) (And.intro (Val.of hσ rfl rfl) (And.intro (Val.of hσ rfl rfl) (And.intro (Val.of hσ rfl rfl) (And.intro (Val.of hσ rfl rfl) (And.intro (Val.of hσ rfl rfl) (And.intro ((Val.fits64 hσ rfl rfl (by first | omega | (simp at *; omega)) (by first | omega | (simp at *; omega))).cast (v' := eI ((k + 1 : Nat) : Int)) (congrArg eI (by omega))) (And.intro (Val.indexN hσ rfl rfl rfl rfl rfl rfl rfl rfl (idxN (n := k + 1) (by omega))) (And.intro (Val.of hσ rfl rfl) (And.intro (Val.of hσ rfl rfl) (And.intro (Val.fits64 hσ rfl rfl (by first | omega | (have := hmm; simp only [Nat.add_zero] at this; omega)) (by first | omega | (have := hmm; simp only [Nat.add_zero] at this; omega))) (And.intro (Eff.lone hσ (B0 := 179000) rfl rfl rfl rfl (c165 (x := (a.code.getD k default).a * (a.code.getD (k + 1) default).a) h1 h2) (VAs.self rfl) rfl rfl rfl rfl rfl) (And.intro (Val.pickY hσ rfl rfl rfl rfl rfl) trivial)))))))))))))))) ?_
         exact ⟨rfl, Ent.sel (bs := [.box ((a.code.getD k default).cells.map .d)]) [7] rfl rfl ⟨rfl, rfl, rfl, rfl, rfl, trivial⟩ rfl⟩
        | false =>
         refine AWP.drawG hσ _ [_, _, _, _, _, _, _, _, _, _, _, _, _, _, _, _] [⟨[], 0, 1, none⟩, ⟨[], 0, 1, none⟩, ⟨[], 0, 0, some 0⟩, ⟨[0, 1, 2], 0, 0, some 1⟩, ⟨[0, 1, 2, 3], 2, 2, none⟩, ⟨[0, 1, 2, 3, 4], 0, 2, none⟩, ⟨[0, 1, 2, 3, 4, 5], 0, 2, none⟩, ⟨[0, 1, 2, 3, 4], 0, 2, none⟩, ⟨[0, 1, 2, 3, 4], 0, 2, none⟩, ⟨[0, 1, 2, 3, 4, 8], 0, 2, none⟩, ⟨[0, 1, 2, 3, 4, 7, 8, 9], 0, 2, none⟩, ⟨[0, 1, 2, 3, 4, 7, 8, 9, 10], 0, 2, none⟩, ⟨[0, 1, 2, 3, 4, 7, 8, 9, 10, 11], 0, 2, none⟩, ⟨[0, 1, 2, 3, 4, 5, 6, 7, 8, 9, 10, 11, 12], 0, 2, none⟩, ⟨[0, 1, 2, 3, 4, 5, 6, 7, 8, 9, 10, 11, 12, 13], 0, 2, none⟩, ⟨[0, 1, 2, 3, 4, 5, 6, 7, 8, 9, 10, 11, 12, 13, 14], 2, 2, none⟩] [2, 3] [_, _, _] rfl rfl (by decide) (by decide) (by kernel_rfl) (And.intro (And.intro (Val.of hσ rfl rfl) (Val.of hσ rfl rfl)) (And.intro (And.intro (Val.of hσ rfl rfl) (Val.of hσ rfl rfl)) (And.intro (Eff.litN hσ rfl rfl rfl rfl rfl rfl rfl rfl rfl rfl rfl rfl rfl) (And.intro (Eff.lone hσ (B0 := 168000) rfl rfl rfl rfl ((c164 (a := a) (k := k) (os := [4, 4]) h1 h2 hk).plain (congrArg eB hb16)) (VAs.cons (.c .d) (.cons (.c .d) (.cons (.c (.whole rfl rfl)) .nil))) rfl rfl rfl rfl rfl) (And.intro (Val.of hσ rfl rfl) (And.intro ⟨rfl, rfl⟩ (And.intro ⟨rfl, rfl⟩ (And.intro ⟨rfl, rfl⟩ (And.intro ⟨rfl, rfl⟩ (And.intro ⟨rfl, rfl⟩ (And.intro ⟨rfl, rfl⟩ (And.intro ⟨rfl, rfl⟩ (And.intro ⟨rfl, rfl⟩ (And.intro ⟨rfl, rfl⟩ (And.intro ⟨rfl, rfl⟩ (And.intro (Val.pickN hσ rfl rfl rfl rfl rfl) trivial)))))))))))))))) ?_
         exact ⟨rfl, Ent.sel (bs := [.box ((a.code.getD k default).cells.map .d)]) [7] rfl rfl ⟨rfl, rfl, rfl, rfl, rfl, trivial⟩ rfl⟩
       refine AWP.cond hσ rfl rfl (fun hc179 => ?_) (fun hc179 => ?_)
       ·
        skip
        refine AWP.seq ?_
        obtain ⟨hb16, hnum16⟩ := bifT hc179
        have hq := seg_lt hk hb16
        have hq1 : k + 1 < a.code.length := by simp only [List.length_cons, List.length_nil] at hq; omega
        have n0 := seg_num (i := 0) hA hk hb16 (by decide) (.inr rfl)
        have n1 := seg_num (i := 1) hA hk hb16 (by decide) (.inr rfl)
        have hmm := numM n0 n1
        refine AWP.drawR hσ _ [_, _, _, _, _, _, _, _, _, _, _, _, _] [⟨[], 0, 0, none⟩, ⟨[0], 0, 0, none⟩, ⟨[], 0, 0, none⟩, ⟨[], 0, 0, none⟩, ⟨[3], 0, 0, none⟩, ⟨[2, 3, 4], 0, 0, none⟩, ⟨[2, 3, 4, 5], 0, 0, none⟩, ⟨[2, 3, 4, 5, 6], 0, 0, none⟩, ⟨[0, 1, 2, 3, 4, 5, 6, 7], 0, 0, none⟩, ⟨[0, 1, 2, 3, 4, 5, 6, 7, 8], 0, 0, none⟩, ⟨[0, 1, 2, 3, 4, 5, 6, 7, 8, 9], 0, 0, some 0⟩, ⟨[], 0, 1, none⟩, ⟨[0, 1, 2, 3, 4, 5, 6, 7, 8, 9, 10, 11], 1, 1, none⟩] [10] [_, _] rfl rfl (by decide) (by decide) (by kernel_rfl) (And.intro (Val.of hσ rfl rfl) (And.intro (Val.of hσ rfl rfl) (And.intro (Val.of hσ rfl rfl) (And.intro (Val.of hσ rfl rfl) (And.intro ((Val.fits64 hσ rfl rfl (by first | omega | (simp at *; omega)) (by first | omega | (simp at *; omega))).cast (v' := eI ((k + 1 : Nat) : Int)) (congrArg eI (by omega))) (And.intro (Val.indexN hσ rfl rfl rfl rfl rfl rfl rfl rfl (idxN (n := k + 1) (by omega))) (And.intro (Val.of hσ rfl rfl) (And.intro (Val.of hσ rfl rfl) (And.intro (Val.fits64 hσ rfl rfl (by first | omega | (have := hmm; simp only [Nat.add_zero] at this; omega)) (by first | omega | (have := hmm; simp only [Nat.add_zero] at this; omega))) (And.intro (Val.of hσ rfl rfl) (And.intro (Eff.litN hσ rfl rfl rfl rfl rfl rfl rfl rfl rfl rfl rfl rfl rfl) (And.intro (And.intro (Val.of hσ rfl rfl) (Val.of hσ rfl rfl)) (And.intro (Val.of hσ rfl rfl) trivial))))))))))))) ?_
        refine AWP.ret ?_
        subst hB7
        subst hB9
        rw [show ruleA a k = _ from ruleR_code hk]
        unfold ruleC
        rw [if_neg (andN hc32), if_neg (andN hc59), if_neg (pat3' hc79), if_neg (pat3' hc94), if_neg (pat5' hc141), if_neg (pat6' hc161), if_pos ⟨hb16, hnum16⟩]
        refine ⟨.inl rfl, _, Ent.ownS 190 (xs := ([(⟨4, (a.code.getD k default).a * (a.code.getD (k + 1) default).a⟩ : In)]).map In.cells) rfl in_scal, _, rfl, [190], by decide, rfl, rfl, rfl⟩
       ·
        skip
        refine AWP.skip ?_
        refine AWP.seq ?_
        refine AWP.region ?_
        refine AOps.heap (HS.lit hσ rfl rfl rfl) rfl ?_
        refine AOps.step (Val.of hσ rfl rfl) rfl rfl rfl ?_
        refine AOps.step (Val.of hσ rfl rfl) rfl rfl rfl ?_
        refine AOps.nil ?_
        refine AWP.ret ?_
        subst hB7
        subst hB9
        rw [show ruleA a k = _ from ruleR_code hk]
        unfold ruleC
        rw [if_neg (andN hc32), if_neg (andN hc59), if_neg (pat3' hc79), if_neg (pat3' hc94), if_neg (pat5' hc141), if_neg (pat6' hc161), if_neg (andN hc179)]
        refine ⟨.inl rfl, _, Ent.refl, _, rfl, [191], by decide, rfl, rfl, rfl⟩
end Go.Al
namespace Go.Al
open Go.Proofs
set_option linter.unusedVariables false
set_option linter.unusedSimpArgs false
set_option maxRecDepth 10000
set_option maxHeartbeats 4000000
theorem c143o {L : Nat} (h1 : 4096 ≤ L) (h2 : L ≤ 1073741824) {t : Tm} : MC Try.prog L 82 [ptr t.cells] [] (Rows (.agg [.d (.int .i64 t.c), .rs 0 0 t.xs.length]) [nrow t.xs]) := by
 refine MC.rows ?_
 have hσ := SGok (nt := 13) h1 (Nat.le_trans h2 (by decide))
 refine MC.body hσ Try.func82 (by kernel_rfl) rfl rfl (Nat.le_of_ble_eq_true rfl) (fun hF => ?_)
 refine AWP.seq ?_
 refine AWP.region ?_
 refine AOps.heap (HS.alloc hσ rfl rfl rfl rfl rfl) rfl ?_
 refine AOps.nil ?_
 refine AWP.seq ?_
 refine AWP.drawR hσ _ [_, _, _, _, _, _, _, _, _, _, _] [⟨[], 0, 1, none⟩, ⟨[0], 0, 1, none⟩, ⟨[0, 1], 0, 1, none⟩, ⟨[0, 1, 2], 0, 1, none⟩, ⟨[], 0, 0, none⟩, ⟨[4], 0, 0, none⟩, ⟨[4, 5], 0, 0, none⟩, ⟨[4, 5, 6], 0, 0, none⟩, ⟨[4, 5, 6, 7], 0, 0, some 0⟩, ⟨[0, 1, 2, 3, 4, 5, 6, 7, 8], 1, 1, none⟩, ⟨[0, 1, 2, 3, 4, 5, 6, 7, 8, 9], 0, 0, some 1⟩] [8, 10] [_, _, _] rfl rfl (by decide) (by decide) (by kernel_rfl) (And.intro (And.intro (Val.of hσ rfl rfl) (Val.of hσ rfl rfl)) (And.intro (And.intro (Val.of hσ rfl rfl) (Val.of hσ rfl rfl)) (And.intro (And.intro (Val.of hσ rfl rfl) (Val.of hσ rfl rfl)) (And.intro (And.intro (Val.of hσ rfl rfl) (Val.of hσ rfl rfl)) (And.intro (Val.of hσ rfl rfl) (And.intro (Val.of hσ rfl rfl) (And.intro (Val.of hσ rfl rfl) (And.intro (Val.of hσ rfl rfl) (And.intro (Eff.rows hσ (B0 := 12000) rfl rfl rfl rfl (c151 (xs := t.xs) h1 h2) (VAs.self rfl) rfl rfl rfl rfl rfl) (And.intro (Val.of hσ rfl rfl) (And.intro (Eff.storeBox hσ rfl rfl rfl rfl rfl rfl rfl rfl rfl rfl rfl rfl rfl) trivial))))))))))) ?_
 refine AWP.ret ?_
 refine ⟨.inl rfl, _, Ent.refl, _, rfl, [12000], by decide, rfl, rfl, rfl⟩
theorem c86o {L : Nat} (h1 : 4096 ≤ L) (h2 : L ≤ 1073741824) {ts : List Tm} : MC Try.prog L 61 [atms ts] [] (Rows (.c (.rs 0 0 ts.length)) [trow ts]) := by
 refine MC.rows ?_
 have hσ := SGok (nt := 20) h1 (Nat.le_trans h2 (by decide))
 refine MC.body hσ Try.func61 (by kernel_rfl) rfl rfl (Nat.le_of_ble_eq_true rfl) (fun hF => ?_)
 have hl : ts.length ≤ L := by simpa [As.fact, A.fact, M.fact, D.fact, Ds.fact] using hF.1.1
 refine AWP.seq ?_
 refine AWP.region ?_
 refine AOps.step (Val.of hσ rfl rfl) rfl rfl rfl ?_
 refine AOps.nil ?_
 refine AWP.seq ?_
 refine AWP.region ?_
 refine AOps.heap (HS.lit hσ rfl rfl rfl) rfl ?_
 apply AOps.norm
 ·
  repeat' (first | exact HN.nil rfl | apply HN.cons rfl | exact BN.row rfl | exact BN.map rfl | apply BN.box rfl | exact MN.nil rfl | apply MN.cons rfl | exact XN.d rfl | exact XN.rs rfl | exact XN.self)
 refine AOps.step (Val.of hσ rfl rfl) rfl rfl rfl ?_
 refine AOps.nil ?_
 refine AWP.seq ?_
 refine AWP.seq ?_
 refine AWP.region ?_
 refine AOps.step (Val.of hσ rfl rfl) rfl rfl rfl ?_
 refine AOps.nil ?_
 refine AWP.block ?_
 refine AWP.loopP (X := Nat) (fun i => ⟨[(0, atms ts), (3, .c (.rs 900 0 i)), (4, eI i)], [(900, trow (ts.take i))]⟩) (fun i => i ≤ ts.length) (fun i => ts.length - i) 0 ((Ent.sub2 5 900 rfl rfl).trans (Ent.to ⟨rfl, rfl, rfl, trivial⟩ rfl)) ?_ (fun i hi => ?_)
 ·
  exact Nat.zero_le _
 refine AWP.seq ?_
 refine AWP.seq ?_
 refine AWP.region ?_
 refine AOps.step (Val.of hσ rfl rfl) rfl rfl rfl ?_
 refine AOps.step (Val.of hσ rfl rfl) rfl rfl rfl ?_
 first | refine AOps.step (Val.lenD hσ rfl rfl rfl rfl rfl rfl rfl rfl) rfl rfl rfl ?_ | refine AOps.step (Val.of hσ rfl rfl) rfl rfl rfl ?_ | refine AOps.step (Val.vif hσ rfl rfl (by first | omega | (simp at *; omega))) rfl rfl rfl ?_
 refine AOps.step (Val.of hσ rfl rfl) rfl rfl rfl ?_
 refine AOps.forget [(9, _), (0, _), (3, _), (4, _)] ⟨rfl, rfl, rfl, rfl, trivial⟩ ?_
 refine AOps.nil ?_
 refine AWP.cond hσ rfl rfl (fun hc9 => ?_) (fun hc9 => ?_)
 ·
  try simp only [List.length_map, beq_iff_eq, decide_eq_true_eq, decide_eq_false_iff_not, Bool.not_eq_true', Bool.not_eq_false', Bool.not_true, Bool.not_false, Int.not_lt, Int.not_le] at hc9
  refine AWP.skip ?_
  refine AWP.seq ?_
  refine AWP.block ?_
  refine AWP.region ?_
  refine AOps.step (Val.of hσ rfl rfl) rfl rfl rfl ?_
  refine AOps.step (Val.of hσ rfl rfl) rfl rfl rfl ?_
  refine AOps.step (Val.of hσ rfl rfl) rfl rfl rfl ?_
  first | refine AOps.step (Val.indexN hσ rfl rfl rfl rfl rfl rfl rfl rfl (idxN (by first | omega | (simp at *; omega)))) rfl rfl rfl ?_ | refine AOps.step (Val.indexD hσ rfl rfl rfl rfl rfl rfl rfl rfl (by first | omega | (simp at *; omega)) (idx_get (by first | omega | (simp at *; omega)) (by first | omega | (simp at *; omega)))) rfl rfl rfl ?_ | refine AOps.step (Val.vif hσ rfl rfl (by first | omega | (simp at *; omega))) rfl rfl rfl ?_
  refine AOps.forget [(15, _), (12, _), (9, _), (0, _), (3, _), (4, _)] ⟨rfl, rfl, rfl, rfl, rfl, rfl, trivial⟩ ?_
  refine AOps.rows hσ (B0 := 17000) rfl rfl rfl rfl (c143o (t := ts.getD i default) h1 h2) (VAs.self rfl) rfl rfl rfl rfl rfl rfl ?_
  apply AOps.norm
  ·
   repeat' (first | exact HN.nil rfl | apply HN.cons rfl | exact BN.row rfl | exact BN.map rfl | apply BN.box rfl | exact MN.nil rfl | apply MN.cons rfl | exact XN.d rfl | exact XN.rs rfl | exact XN.self)
  refine AOps.forget [(16, _), (12, _), (9, _), (0, _), (3, _), (4, _)] ⟨rfl, rfl, rfl, rfl, rfl, rfl, trivial⟩ ?_
  refine AOps.heap (HS.litAbs (ds := Tm.cells (ts.getD i default)) hσ rfl rfl rfl rfl rfl rfl rfl rfl rfl rfl (.d rfl (.rs rfl (List.length_map _).symm .nil)) rfl rfl rfl) rfl ?_
  apply AOps.norm
  ·
   repeat' (first | exact HN.nil rfl | apply HN.cons rfl | exact BN.row rfl | exact BN.map rfl | apply BN.box rfl | exact MN.nil rfl | apply MN.cons rfl | exact XN.d rfl | exact XN.rs rfl | exact XN.self)
  apply AOps.norm
  ·
   repeat' (first | exact HN.nil rfl | apply HN.cons rfl | exact BN.row rfl | exact BN.map rfl | apply BN.box rfl | exact MN.nil rfl | apply MN.cons rfl | exact XN.d rfl | exact XN.rs rfl | exact XN.self)
  refine AOps.forget [(17, _), (12, _), (9, _), (0, _), (3, _), (4, _)] ⟨rfl, rfl, rfl, rfl, rfl, rfl, trivial⟩ ?_
  refine AOps.heap (HS.appMove (zs := (ts.take (i + 1)).map Tm.cells) (n := i + 1) hσ rfl rfl rfl rfl rfl rfl rfl rfl rfl rfl rfl rfl rfl rfl rfl rfl (.row rfl (by simp; omega)) rfl rfl (by decide) rfl (by simp; omega) (by simp; omega) (by rw [List.take_succ_eq_append_getElem (by omega), List.map_append, getD_lt (by omega)]; rfl) (by simp; omega)) rfl ?_
  apply AOps.norm
  ·
   repeat' (first | exact HN.nil rfl | apply HN.cons rfl | exact BN.row rfl | exact BN.map rfl | apply BN.box rfl | exact MN.nil rfl | apply MN.cons rfl | exact XN.d rfl | exact XN.rs rfl | exact XN.self)
  apply AOps.norm
  ·
   repeat' (first | exact HN.nil rfl | apply HN.cons rfl | exact BN.row rfl | exact BN.map rfl | apply BN.box rfl | exact MN.nil rfl | apply MN.cons rfl | exact XN.d rfl | exact XN.rs rfl | exact XN.self)
  refine AOps.step (Val.of hσ rfl rfl) rfl rfl rfl ?_
  refine AOps.forget [(3, _), (9, _), (0, _), (4, _)] ⟨rfl, rfl, rfl, rfl, trivial⟩ ?_
  refine AOps.nil ?_
  refine AWP.region ?_
  refine AOps.step (Val.of hσ rfl rfl) rfl rfl rfl ?_
  first | refine AOps.step (Val.fits64 hσ rfl rfl (by first | omega | (simp at *; omega)) (by first | omega | (simp at *; omega))) rfl rfl rfl ?_ | refine AOps.step (Val.vif hσ rfl rfl (by first | omega | (simp at *; omega))) rfl rfl rfl ?_
  refine AOps.step (Val.of hσ rfl rfl) rfl rfl rfl ?_
  refine AOps.forget [(4, _), (3, _), (9, _), (0, _)] ⟨rfl, rfl, rfl, rfl, trivial⟩ ?_
  refine AOps.nil ?_
  refine ⟨i + 1, ((Ent.sel [18] (e' := [(0, _), (3, _), (4, _)]) rfl rfl ⟨rfl, rfl, rfl, trivial⟩ rfl).trans (Ent.sub2 18 900 rfl rfl)), by omega, by omega⟩
 ·
  try simp only [List.length_map, beq_iff_eq, decide_eq_true_eq, decide_eq_false_iff_not, Bool.not_eq_true', Bool.not_eq_false', Bool.not_true, Bool.not_false, Int.not_lt, Int.not_le] at hc9
  refine AWP.exit ?_
  refine AWP.seq ?_
  refine AWP.region ?_
  refine AOps.step (Val.of hσ rfl rfl) rfl rfl rfl ?_
  refine AOps.step (Val.of hσ rfl rfl) rfl rfl rfl ?_
  refine AOps.nil ?_
  refine AWP.ret ?_
  obtain rfl : i = ts.length := by omega
  rw [List.take_length]
  refine ⟨.inl rfl, _, Ent.refl, _, rfl, [900], by decide, rfl, rfl, rfl⟩
theorem c119 {L : Nat} (h1 : 4096 ≤ L) (h2 : L ≤ 1073741824) {a : An} : MC Try.prog L 36 [ptr a.data] [] (Rows (anRs a) [trow a.pre, trow a.post, irow a.code, prow a.pts]) := by
 refine MC.rows ?_
 have hσ := SGok (nt := 55) h1 (Nat.le_trans h2 (by decide))
 refine MC.body hσ Try.func36 (by kernel_rfl) rfl rfl (Nat.le_of_ble_eq_true rfl) (fun hF => ?_)
 have hl : a.code.length ≤ L := by simpa [As.fact, A.fact, M.fact, D.fact, Ds.fact] using hF.1.2.2.1.1
 have hlp : a.pts.length ≤ L := by simpa [As.fact, A.fact, M.fact, D.fact, Ds.fact] using hF.1.2.2.2.1.1
 refine AWP.seq ?_
 refine AWP.region ?_
 refine AOps.heap (HS.alloc hσ rfl rfl rfl rfl rfl) rfl ?_
 apply AOps.norm
 ·
  repeat' (first | exact HN.nil rfl | apply HN.cons rfl | exact BN.row rfl | exact BN.map rfl | apply BN.box rfl | exact MN.nil rfl | apply MN.cons rfl | exact XN.d rfl | exact XN.rs rfl | exact XN.self)
 refine AOps.nil ?_
 refine AWP.seq ?_
 refine AWP.drawS hσ _ [_, _, _, _, _, _, _, _, _, _, _, _, _, _, _, _, _, _, _] [⟨[], 0, 0, none⟩, ⟨[0], 0, 0, none⟩, ⟨[0, 1], 0, 0, none⟩, ⟨[0, 1, 2], 0, 0, none⟩, ⟨[0, 1, 2, 3], 0, 0, some 0⟩, ⟨[], 0, 1, none⟩, ⟨[5], 0, 1, none⟩, ⟨[5, 6], 0, 1, none⟩, ⟨[5, 6, 7], 0, 1, none⟩, ⟨[0, 1, 2, 3, 4, 5, 6, 7, 8], 0, 0, some 1⟩, ⟨[], 0, 2, none⟩, ⟨[], 0, 2, none⟩, ⟨[11], 0, 2, none⟩, ⟨[11, 12], 0, 2, none⟩, ⟨[11, 12, 13], 0, 2, none⟩, ⟨[0, 1, 2, 3, 4, 5, 6, 7, 8, 9, 10, 11, 12, 13, 14], 0, 0, some 2⟩, ⟨[0, 1, 2, 3, 4, 5, 6, 7, 8, 9, 10, 11, 12, 13, 14, 15], 3, 3, none⟩, ⟨[], 0, 3, none⟩, ⟨[0, 1, 2, 3, 4, 5, 6, 7, 8, 9, 10, 11, 12, 13, 14, 15, 16, 17], 0, 0, some 3⟩] [4, 9, 15, 18] 17 3 (.box [.d .nils, .d .nils, .d .nils, .d .nils]) [_, _, _, _] [_] [[], [], [], []] rfl rfl (by decide) (by decide) (by decide) rfl (by kernel_rfl) (And.intro (And.intro (and_flip (.inl (Val.of hσ rfl rfl)) (.inl (Val.of hσ rfl rfl))) rfl) (And.intro (And.intro (and_flip (.inl (Val.of hσ rfl rfl)) (.inl (Val.of hσ rfl rfl))) rfl) (And.intro (And.intro (and_flip (.inl (Val.of hσ rfl rfl)) (.inl (Val.of hσ rfl rfl))) rfl) (And.intro (And.intro (and_flip (.inl (Val.of hσ rfl rfl)) (.inl (Val.of hσ rfl rfl))) rfl) (And.intro (And.intro (and_flip (Eff.p (Eff.rows hσ (B0 := 10000) rfl rfl rfl rfl (c86o (ts := a.pre) h1 h2) (VAs.self rfl) rfl rfl rfl rfl rfl)) (Eff.p (Eff.rows hσ (B0 := 10000) rfl rfl rfl rfl (c86o (ts := a.pre) h1 h2) (VAs.self rfl) rfl rfl rfl rfl rfl))) rfl) (And.intro (And.intro (And.intro (and_flip (.inl (Val.of hσ rfl rfl)) (.inl (Val.of hσ rfl rfl))) rfl) (And.intro (and_flip (.inl (Val.of hσ rfl rfl)) (.inl (Val.of hσ rfl rfl))) rfl)) (And.intro (And.intro (And.intro (and_flip (.inl (Val.of hσ rfl rfl)) (.inl (Val.of hσ rfl rfl))) rfl) (And.intro (and_flip (.inl (Val.of hσ rfl rfl)) (.inl (Val.of hσ rfl rfl))) rfl)) (And.intro (And.intro (And.intro (and_flip (.inl (Val.of hσ rfl rfl)) (.inl (Val.of hσ rfl rfl))) rfl) (And.intro (and_flip (.inl (Val.of hσ rfl rfl)) (.inl (Val.of hσ rfl rfl))) rfl)) (And.intro (And.intro (And.intro (and_flip (.inl (Val.of hσ rfl rfl)) (.inl (Val.of hσ rfl rfl))) rfl) (And.intro (and_flip (.inl (Val.of hσ rfl rfl)) (.inl (Val.of hσ rfl rfl))) rfl)) (And.intro (And.intro (and_flip (Eff.p (Eff.rows hσ (B0 := 15000) rfl rfl rfl rfl (c86o (ts := a.post) h1 h2) (VAs.self rfl) rfl rfl rfl rfl rfl)) (Eff.p (Eff.rows hσ (B0 := 15000) rfl rfl rfl rfl (c86o (ts := a.post) h1 h2) (VAs.self rfl) rfl rfl rfl rfl rfl))) rfl) (And.intro (And.intro (And.intro (and_flip (.inr (Eff.litE hσ rfl rfl rfl rfl rfl rfl rfl (by repeat' (first | exact .nil | refine .skip ?_ | refine .cons rfl .row ?_ | refine .cons rfl (.box (FMs.keep rfl)) ?_)))) (.inr (Eff.litE hσ rfl rfl rfl rfl rfl rfl rfl (by repeat' (first | exact .nil | refine .skip ?_ | refine .cons rfl .row ?_ | refine .cons rfl (.box (FMs.keep rfl)) ?_))))) rfl) (And.intro (And.intro (and_flip (.inr (Eff.litE hσ rfl rfl rfl rfl rfl rfl rfl (by repeat' (first | exact .nil | refine .skip ?_ | refine .cons rfl .row ?_ | refine .cons rfl (.box (FMs.keep rfl)) ?_)))) (.inr (Eff.litE hσ rfl rfl rfl rfl rfl rfl rfl (by repeat' (first | exact .nil | refine .skip ?_ | refine .cons rfl .row ?_ | refine .cons rfl (.box (FMs.keep rfl)) ?_))))) rfl) (And.intro (and_flip (.inr (Eff.litE hσ rfl rfl rfl rfl rfl rfl rfl (by repeat' (first | exact .nil | refine .skip ?_ | refine .cons rfl .row ?_ | refine .cons rfl (.box (FMs.keep rfl)) ?_)))) (.inr (Eff.litE hσ rfl rfl rfl rfl rfl rfl rfl (by repeat' (first | exact .nil | refine .skip ?_ | refine .cons rfl .row ?_ | refine .cons rfl (.box (FMs.keep rfl)) ?_))))) rfl))) (And.intro (And.intro (And.intro (and_flip (.inl (Val.of hσ rfl rfl)) (.inl (Val.of hσ rfl rfl))) rfl) (And.intro (And.intro (and_flip (.inl (Val.of hσ rfl rfl)) (.inl (Val.of hσ rfl rfl))) rfl) (And.intro (and_flip (.inl (Val.of hσ rfl rfl)) (.inl (Val.of hσ rfl rfl))) rfl))) (And.intro (And.intro (And.intro (and_flip (.inl (Val.of hσ rfl rfl)) (.inl (Val.of hσ rfl rfl))) rfl) (And.intro (And.intro (and_flip (.inl (Val.of hσ rfl rfl)) (.inl (Val.of hσ rfl rfl))) rfl) (And.intro (and_flip (.inl (Val.of hσ rfl rfl)) (.inl (Val.of hσ rfl rfl))) rfl))) (And.intro (And.intro (And.intro (and_flip (.inl (Val.of hσ rfl rfl)) (.inl (Val.of hσ rfl rfl))) rfl) (And.intro (And.intro (and_flip (.inl (Val.of hσ rfl rfl)) (.inl (Val.of hσ rfl rfl))) rfl) (And.intro (and_flip (.inl (Val.of hσ rfl rfl)) (.inl (Val.of hσ rfl rfl))) rfl))) (And.intro (And.intro (And.intro (and_flip (.inl (Val.of hσ rfl rfl)) (.inl (Val.of hσ rfl rfl))) rfl) (And.intro (And.intro (and_flip (.inl (Val.of hσ rfl rfl)) (.inl (Val.of hσ rfl rfl))) rfl) (And.intro (and_flip (.inl (Val.of hσ rfl rfl)) (.inl (Val.of hσ rfl rfl))) rfl))) (And.intro (And.intro (and_flip (Eff.p (Eff.appNew (own := true) (xs := []) (ys := a.code.map In.cells) (zs := a.code.map In.cells) (n := a.code.length) hσ rfl rfl rfl rfl rfl rfl rfl rfl rfl rfl rfl rfl rfl rfl rfl rfl .ez (.slc (.inr in_scal)) (by simp) rfl (by simp; omega) (by simp; omega) rfl (by simp) rfl)) (Eff.p (Eff.appNew (own := true) (xs := []) (ys := a.code.map In.cells) (zs := a.code.map In.cells) (n := a.code.length) hσ rfl rfl rfl rfl rfl rfl rfl rfl rfl rfl rfl rfl rfl rfl rfl rfl .ez (.slc (.inr in_scal)) (by simp) rfl (by simp; omega) (by simp; omega) rfl (by simp) rfl))) rfl) (And.intro (And.intro (and_flip (.inl (Val.of hσ rfl rfl)) (.inl (Val.of hσ rfl rfl))) rfl) (And.intro (And.intro (And.intro (Eff.p (Eff.alloc hσ rfl rfl rfl rfl rfl rfl)) rfl) (And.intro (And.intro (Eff.p (Eff.alloc hσ rfl rfl rfl rfl rfl rfl)) rfl) (And.intro (And.intro (Eff.p (Eff.alloc hσ rfl rfl rfl rfl rfl rfl)) rfl) (And.intro (Eff.p (Eff.alloc hσ rfl rfl rfl rfl rfl rfl)) rfl)))) (And.intro (And.intro (and_flip trivial (Eff.p (Eff.storeBox hσ rfl rfl rfl rfl rfl rfl rfl rfl rfl rfl rfl rfl rfl))) rfl) trivial))))))))))))))))))) ?_
 refine AWP.forget [(3, _), (2, _), (0, _)] ⟨rfl, rfl, rfl, trivial⟩ ?_
 apply AWP.norm
 ·
  repeat' (first | exact HN.nil rfl | apply HN.cons rfl | exact BN.row rfl | exact BN.map rfl | apply BN.box rfl | exact MN.nil rfl | apply MN.cons rfl | exact XN.d rfl | exact XN.rs rfl | exact XN.self)
 refine AWP.seq ?_
 refine AWP.seq ?_
 refine AWP.region ?_
 refine AOps.step (Val.of hσ rfl rfl) rfl rfl rfl ?_
 refine AOps.nil ?_
 refine AWP.block ?_
 refine AWP.loopP (X := Nat) (fun i => ⟨[(0, ptr a.data), (2, .c (.pt 2 0 0)), (3, .c (.pt 3 0 0)), (4, eI i)], [(2, .box [.d .nils, .d .nils, .d .nils, .d .nils]), (3, .box [.rs 10000 0 a.pre.length, .rs 15000 0 a.post.length, .rs 20 0 a.code.length, .rs 901 0 i]), (20, irow a.code), (901, prow (a.pts.take i)), (10000, trow a.pre), (15000, trow a.post)]⟩) (fun i => i ≤ a.pts.length) (fun i => a.pts.length - i) 0 ((Ent.nameBox 3 901 2 true 3 rfl rfl rfl).trans (Ent.to ⟨rfl, rfl, rfl, rfl, trivial⟩ rfl)) ?_ (fun i hi => ?_)
 ·
  exact Nat.zero_le _
 refine AWP.seq ?_
 refine AWP.seq ?_
 refine AWP.region ?_
 refine AOps.step (Val.of hσ rfl rfl) rfl rfl rfl ?_
 refine AOps.step (Val.of hσ rfl rfl) rfl rfl rfl ?_
 refine AOps.step (Val.of hσ rfl rfl) rfl rfl rfl ?_
 refine AOps.step (Val.of hσ rfl rfl) rfl rfl rfl ?_
 refine AOps.step (Val.of hσ rfl rfl) rfl rfl rfl ?_
 first | refine AOps.step (Val.lenD hσ rfl rfl rfl rfl rfl rfl rfl rfl) rfl rfl rfl ?_ | refine AOps.step (Val.of hσ rfl rfl) rfl rfl rfl ?_ | refine AOps.step (Val.vif hσ rfl rfl (by first | omega | (simp at *; omega))) rfl rfl rfl ?_
 refine AOps.step (Val.of hσ rfl rfl) rfl rfl rfl ?_
 refine AOps.forget [(28, _), (0, _), (2, _), (3, _), (4, _)] ⟨rfl, rfl, rfl, rfl, rfl, trivial⟩ ?_
 refine AOps.nil ?_
 refine AWP.cond hσ rfl rfl (fun hc28 => ?_) (fun hc28 => ?_)
 ·
  try simp only [List.length_map, beq_iff_eq, decide_eq_true_eq, decide_eq_false_iff_not, Bool.not_eq_true', Bool.not_eq_false', Bool.not_true, Bool.not_false, Int.not_lt, Int.not_le] at hc28
  refine AWP.skip ?_
  refine AWP.seq ?_
  refine AWP.block ?_
  refine AWP.drawP hσ _ [_, _, _, _, _, _, _, _, _, _, _, _, _, _, _, _, _, _, _, _, _, _, _, _] [⟨[], 0, 2, none⟩, ⟨[0], 0, 2, none⟩, ⟨[], 0, 1, none⟩, ⟨[2], 0, 1, none⟩, ⟨[2, 3], 0, 1, none⟩, ⟨[2, 3, 4], 0, 1, none⟩, ⟨[], 0, 1, none⟩, ⟨[2, 3, 4, 5, 6], 0, 1, none⟩, ⟨[2, 3, 4, 5, 6, 7], 0, 1, none⟩, ⟨[2, 3, 4, 5, 6, 7, 8], 0, 1, none⟩, ⟨[], 0, 0, none⟩, ⟨[10], 0, 0, none⟩, ⟨[10, 11], 0, 0, none⟩, ⟨[10, 11, 12], 0, 0, none⟩, ⟨[], 0, 0, none⟩, ⟨[10, 11, 12, 13, 14], 0, 0, none⟩, ⟨[10, 11, 12, 13, 14, 15], 0, 0, none⟩, ⟨[10, 11, 12, 13, 14, 15, 16], 0, 0, none⟩, ⟨[10, 11, 12, 13, 14, 15, 16, 17], 0, 0, some 0⟩, ⟨[2, 3, 4, 5, 6, 7, 8, 9, 10, 11, 12, 13, 14, 15, 16, 17, 18], 1, 1, none⟩, ⟨[2, 3, 4, 5, 6, 7, 8, 9, 10, 11, 12, 13, 14, 15, 16, 17, 18, 19], 0, 0, some 1⟩, ⟨[0, 1, 2, 3, 4, 5, 6, 7, 8, 9, 10, 11, 12, 13, 14, 15, 16, 17, 18, 19, 20], 0, 0, some 2⟩, ⟨[0, 1, 2, 3, 4, 5, 6, 7, 8, 9, 10, 11, 12, 13, 14, 15, 16, 17, 18, 19, 20, 21], 3, 3, none⟩, ⟨[0, 1, 2, 3, 4, 5, 6, 7, 8, 9, 10, 11, 12, 13, 14, 15, 16, 17, 18, 19, 20, 21, 22], 0, 0, some 3⟩] [18, 20, 21, 23] [_, _, _, _, _] [[], [50000], [901, 51], []] rfl rfl (by decide) (by decide) (by kernel_rfl) (And.intro (And.intro (And.intro (Val.of hσ rfl rfl) rfl) (And.intro (And.intro (Val.of hσ rfl rfl) rfl) (And.intro (Val.of hσ rfl rfl) rfl))) (And.intro (And.intro (And.intro (Val.of hσ rfl rfl) rfl) (And.intro (And.intro (Val.of hσ rfl rfl) rfl) (And.intro (Val.of hσ rfl rfl) rfl))) (And.intro (And.intro (And.intro (Val.of hσ rfl rfl) rfl) (And.intro (Val.of hσ rfl rfl) rfl)) (And.intro (And.intro (And.intro (Val.of hσ rfl rfl) rfl) (And.intro (Val.of hσ rfl rfl) rfl)) (And.intro (And.intro (And.intro (Val.of hσ rfl rfl) rfl) (And.intro (Val.of hσ rfl rfl) rfl)) (And.intro (And.intro (And.intro (Val.of hσ rfl rfl) rfl) (And.intro (Val.of hσ rfl rfl) rfl)) (And.intro (And.intro (And.intro (Val.of hσ rfl rfl) rfl) (And.intro (Val.of hσ rfl rfl) rfl)) (And.intro (And.intro (And.intro (Val.indexN hσ rfl rfl rfl rfl rfl rfl rfl rfl (idxN (by first | omega | (simp at *; omega)))) rfl) (And.intro (Val.indexN hσ rfl rfl rfl rfl rfl rfl rfl rfl (idxN (by first | omega | (simp at *; omega)))) rfl)) (And.intro (And.intro (And.intro (Val.of hσ rfl rfl) rfl) (And.intro (Val.of hσ rfl rfl) rfl)) (And.intro (And.intro (And.intro (Val.of hσ rfl rfl) rfl) (And.intro (Val.of hσ rfl rfl) rfl)) (And.intro (And.intro (Val.of hσ rfl rfl) rfl) (And.intro (And.intro (Val.of hσ rfl rfl) rfl) (And.intro (And.intro (Val.of hσ rfl rfl) rfl) (And.intro (And.intro (Val.of hσ rfl rfl) rfl) (And.intro (And.intro (Val.of hσ rfl rfl) rfl) (And.intro (And.intro (Val.indexN hσ rfl rfl rfl rfl rfl rfl rfl rfl (idxN (by first | omega | (simp at *; omega)))) rfl) (And.intro (And.intro (Val.of hσ rfl rfl) rfl) (And.intro (And.intro (Val.of hσ rfl rfl) rfl) (And.intro (And.intro (Eff.p (Eff.rows hσ (B0 := 50000) rfl rfl rfl rfl (c86o (ts := (a.pts.getD i default).fs) h1 h2) (VAs.self rfl) rfl rfl rfl rfl rfl)) rfl) (And.intro (And.intro (Val.of hσ rfl rfl) rfl) (And.intro (And.intro (Eff.litAbs (l := 50000) (ds := (a.pts.getD i default).cells) hσ rfl rfl rfl rfl rfl rfl rfl rfl rfl rfl rfl rfl (fun e => .d rfl (.rs rfl (List.length_map _).symm .nil)) rfl rfl) rfl) (And.intro (And.intro (Eff.appMove (xs := (a.pts.take i).map Pt.cells) (ys := [(a.pts.getD i default).cells]) (zs := (a.pts.take (i + 1)).map Pt.cells) (n := i + 1) hσ rfl rfl rfl rfl rfl rfl rfl rfl rfl rfl rfl rfl rfl rfl rfl rfl (.row rfl (by simp; omega)) rfl rfl (by decide) rfl (by simp; omega) (by simp; omega) (by rw [List.take_succ_eq_append_getElem (show i < a.pts.length by omega), getD_lt (show i < a.pts.length by omega), List.map_append]; rfl) (by simp; omega) rfl) rfl) (And.intro (And.intro (Val.of hσ rfl rfl) rfl) (And.intro (And.intro (Eff.p (Eff.storeBox hσ rfl rfl rfl rfl rfl rfl rfl rfl rfl rfl rfl rfl rfl)) rfl) trivial)))))))))))))))))))))))) ?_
  refine AWP.forget [(28, _), (0, _), (2, _), (3, _), (4, _)] ⟨rfl, rfl, rfl, rfl, rfl, trivial⟩ ?_
  apply AWP.norm
  ·
   repeat' (first | exact HN.nil rfl | apply HN.cons rfl | exact BN.row rfl | exact BN.map rfl | apply BN.box rfl | exact MN.nil rfl | apply MN.cons rfl | exact XN.d rfl | exact XN.rs rfl | exact XN.self)
  refine AWP.region ?_
  refine AOps.step (Val.of hσ rfl rfl) rfl rfl rfl ?_
  first | refine AOps.step (Val.fits64 hσ rfl rfl (by first | omega | (simp at *; omega)) (by first | omega | (simp at *; omega))) rfl rfl rfl ?_ | refine AOps.step (Val.vif hσ rfl rfl (by first | omega | (simp at *; omega))) rfl rfl rfl ?_
  refine AOps.step (Val.of hσ rfl rfl) rfl rfl rfl ?_
  refine AOps.forget [(4, _), (28, _), (0, _), (2, _), (3, _)] ⟨rfl, rfl, rfl, rfl, rfl, trivial⟩ ?_
  refine AOps.nil ?_
  refine ⟨i + 1, ((Ent.sel [2, 3, 20, 52, 10000, 15000] (e' := [(0, _), (2, _), (3, _), (4, _)]) rfl rfl ⟨rfl, rfl, rfl, rfl, trivial⟩ rfl).trans (Ent.sub2 52 901 rfl rfl)), by omega, by omega⟩
 ·
  try simp only [List.length_map, beq_iff_eq, decide_eq_true_eq, decide_eq_false_iff_not, Bool.not_eq_true', Bool.not_eq_false', Bool.not_true, Bool.not_false, Int.not_lt, Int.not_le] at hc28
  refine AWP.exit ?_
  refine AWP.seq ?_
  refine AWP.region ?_
  refine AOps.step (Val.of hσ rfl rfl) rfl rfl rfl ?_
  refine AOps.heap (HS.storeBox hσ rfl rfl rfl rfl rfl rfl rfl rfl rfl rfl rfl) rfl ?_
  apply AOps.norm
  ·
   repeat' (first | exact HN.nil rfl | apply HN.cons rfl | exact BN.row rfl | exact BN.map rfl | apply BN.box rfl | exact MN.nil rfl | apply MN.cons rfl | exact XN.d rfl | exact XN.rs rfl | exact XN.self)
  refine AOps.nil ?_
  refine AWP.ret ?_
  obtain rfl : i = a.pts.length := by omega
  rw [List.take_length]
  refine ⟨.inl rfl, _, Ent.refl, _, rfl, [10000, 15000, 20, 901], by decide, rfl, rfl, rfl⟩
end Go.Al
