/- Validity and copies of annotated code. -/
import Derived.Test.YtnepkogijffmjaaGreatJ
namespace Go.Al
open Go.Proofs
set_option linter.unusedVariables false
set_option linter.unusedSimpArgs false
set_option maxRecDepth 10000
set_option maxHeartbeats 4000000
def restS (c : List In) (ps : List Pt) (k i : Nat) : List In := if i = 0 then sgt c ps k else segF (plB c ps) (k + i) (c.drop (k + i))
theorem pt_not {a : An} {i : Nat} : (bif (bif !(decide (0 ≤ (a.pts.getD i default).k) && decide ((a.pts.getD i default).k ≤ (a.code.length : Int) - 1)) then true else !terms (a.pts.getD i default).fs 6) then true else (bif decide ((0 : Int) < i) then decide ((a.pts.getD i default).k ≤ (a.pts.getD (i - 1) default).k) else false)) = !ptB a.code.length a.pts i := by
  unfold ptB inB
  rw [show decide ((0 : Int) < i) = decide (0 < i) from decide_eq_decide.2 (by omega)]
  cases decide (0 ≤ (a.pts.getD i default).k) <;> cases decide ((a.pts.getD i default).k ≤ (a.code.length : Int) - 1) <;> cases terms (a.pts.getD i default).fs 6 <;> cases decide (0 < i) <;> cases decide ((a.pts.getD i default).k ≤ (a.pts.getD (i - 1) default).k) <;> rfl
theorem ann_no {a : An} (h : (bif (bif (bif !codeB a.code then true else !terms a.pre 6) then true else !terms a.post 6) then true else decide ((8 : Int) < a.pts.length)) = true) : annB a = false := by
  unfold annB
  rw [show decide (a.pts.length ≤ 8) = !decide ((8 : Int) < a.pts.length) by rw [← decide_not]; exact decide_eq_decide.2 (by omega)]
  generalize codeB a.code = b1 at h ⊢
  generalize terms a.pre 6 = b2 at h ⊢
  generalize terms a.post 6 = b3 at h ⊢
  generalize decide ((8 : Int) < a.pts.length) = b at h ⊢
  cases b1 <;> cases b2 <;> cases b3 <;> cases b <;> simp_all
theorem ann_yes {a : An} (h : (bif (bif (bif !codeB a.code then true else !terms a.pre 6) then true else !terms a.post 6) then true else decide ((8 : Int) < a.pts.length)) = false) : annB a = ptsB a.code.length a.pts ∧ a.pts.length ≤ 8 ∧ codeB a.code = true := by
  unfold annB
  rw [show decide (a.pts.length ≤ 8) = !decide ((8 : Int) < a.pts.length) by rw [← decide_not]; exact decide_eq_decide.2 (by omega)]
  generalize codeB a.code = b1 at h ⊢
  generalize terms a.pre 6 = b2 at h ⊢
  generalize terms a.post 6 = b3 at h ⊢
  by_cases hb : (8 : Int) < a.pts.length
  · rw [decide_eq_true hb] at h
    cases b1 <;> cases b2 <;> cases b3 <;> cases h
  · rw [decide_eq_false hb] at h ⊢
    have h9 : a.pts.length ≤ 8 := by omega
    cases b1 <;> cases b2 <;> cases b3 <;> simp_all
theorem codeB_len {c : List In} (h : codeB c = true) : 1 ≤ c.length ∧ c.length ≤ 80 := by
  simp only [codeB, inB, Bool.and_eq_true, decide_eq_true_eq] at h; omega
theorem c67 {L : Nat} (h1 : 4096 ≤ L) (h2 : L ≤ 1073741824) {a : An} : MC Tryz.prog L 22 [ptr a.data] [] (Plain (eB (annB a))) := by
 refine MC.alone ?_ rfl
 have hσ := SGok (nt := 90) h1 (Nat.le_trans h2 (by decide))
 refine MC.body hσ Tryz.func22 (by kernel_rfl) rfl rfl (Nat.le_of_ble_eq_true rfl) (fun hF => ?_)
 have hl : a.code.length ≤ L := by simpa [As.fact, A.fact, M.fact, D.fact, Ds.fact] using hF.1.2.2.1.1
 have hlp : a.pts.length ≤ L := by simpa [As.fact, A.fact, M.fact, D.fact, Ds.fact] using hF.1.2.2.2.1.1
 refine jsr ?_
 refine jst hσ rfl rfl rfl rfl rfl ?_
 refine jn ?_
 refine AWP.seq ?_
 refine jsr ?_
 iterate 4 refine jst hσ rfl rfl rfl rfl rfl ?_
 refine AOps.reset [(8, _), (2, _), (0, _)] [] ⟨rfl, rfl, rfl, trivial⟩ rfl ?_
 refine AOps.lone hσ rfl rfl rfl rfl (c117 h1 h2) (VAs.self rfl) rfl rfl rfl rfl rfl (B0 := 10000) rfl ?_
 iterate 2 refine jst hσ rfl rfl rfl rfl rfl ?_
 refine AOps.reset [(11, _), (2, _), (0, _)] [] ⟨rfl, rfl, rfl, trivial⟩ rfl ?_
 refine AOps.gr 6 rfl rfl rfl (fun hx => AN.step hx rfl rfl rfl (Val.of hσ rfl rfl) rfl rfl ( AN.step hx rfl rfl rfl (Val.of hσ rfl rfl) rfl rfl ( AN.step hx rfl rfl rfl (Val.of hσ rfl rfl) rfl rfl ( AN.step hx rfl rfl rfl (Val.of hσ rfl rfl) rfl rfl ( AN.lone hσ hx rfl rfl rfl rfl (c118 h1 h2) (VAs.self rfl) rfl rfl rfl rfl rfl rfl rfl (B0 := 17000) rfl ( AN.step hx rfl rfl rfl (Val.of hσ rfl rfl) rfl rfl ( AN.nil))))))) rfl rfl ?_
 first | refine AOps.step (Val.pickF hσ rfl rfl rfl rfl rfl) rfl rfl rfl ?_ | refine AOps.step (Val.pickB hσ rfl rfl rfl rfl rfl) rfl rfl rfl ?_ | refine AOps.step (Val.pickT hσ rfl rfl rfl rfl rfl) rfl rfl rfl ?_
 refine jst hσ rfl rfl rfl rfl rfl ?_
 refine AOps.reset [(19, _), (2, _), (0, _)] [] ⟨rfl, rfl, rfl, trivial⟩ rfl ?_
 refine AOps.gr 6 rfl rfl rfl (fun hx => AN.step hx rfl rfl rfl (Val.of hσ rfl rfl) rfl rfl ( AN.step hx rfl rfl rfl (Val.of hσ rfl rfl) rfl rfl ( AN.step hx rfl rfl rfl (Val.of hσ rfl rfl) rfl rfl ( AN.step hx rfl rfl rfl (Val.of hσ rfl rfl) rfl rfl ( AN.lone hσ hx rfl rfl rfl rfl (c118 h1 h2) (VAs.self rfl) rfl rfl rfl rfl rfl rfl rfl (B0 := 25000) rfl ( AN.step hx rfl rfl rfl (Val.of hσ rfl rfl) rfl rfl ( AN.nil))))))) rfl rfl ?_
 first | refine AOps.step (Val.pickF hσ rfl rfl rfl rfl rfl) rfl rfl rfl ?_ | refine AOps.step (Val.pickB hσ rfl rfl rfl rfl rfl) rfl rfl rfl ?_ | refine AOps.step (Val.pickT hσ rfl rfl rfl rfl rfl) rfl rfl rfl ?_
 refine jst hσ rfl rfl rfl rfl rfl ?_
 refine AOps.reset [(27, _), (2, _), (0, _)] [] ⟨rfl, rfl, rfl, trivial⟩ rfl ?_
 refine AOps.gr 6 rfl rfl rfl (fun hx => AN.step hx rfl rfl rfl (Val.of hσ rfl rfl) rfl rfl ( AN.step hx rfl rfl rfl (Val.of hσ rfl rfl) rfl rfl ( AN.step hx rfl rfl rfl (Val.of hσ rfl rfl) rfl rfl ( AN.step hx rfl rfl rfl (Val.of hσ rfl rfl) rfl rfl ( AN.step hx rfl rfl rfl (Val.lenD hσ rfl rfl rfl rfl rfl rfl rfl rfl) rfl rfl ( AN.step hx rfl rfl rfl (Val.of hσ rfl rfl) rfl rfl ( AN.nil))))))) rfl rfl ?_
 first | refine AOps.step (Val.pickF hσ rfl rfl rfl rfl rfl) rfl rfl rfl ?_ | refine AOps.step (Val.pickB hσ rfl rfl rfl rfl rfl) rfl rfl rfl ?_ | refine AOps.step (Val.pickT hσ rfl rfl rfl rfl rfl) rfl rfl rfl ?_
 refine jf [34, 2, 0] rfl ?_
 refine jn ?_
 refine AWP.cond hσ rfl rfl (fun hc34 => ?_) (fun hc34 => ?_)
 ·
  skip
  refine jsr ?_
  refine jst hσ rfl rfl rfl rfl rfl ?_
  refine jn ?_
  refine AWP.ret ?_
  refine ⟨.inl rfl, _, Ent.refl, _, rfl, ?_⟩
  rw [ann_no hc34]
 ·
  skip
  refine AWP.skip ?_
  refine AWP.seq ?_
  refine jsr ?_
  refine jst hσ rfl rfl rfl rfl rfl ?_
  refine jn ?_
  refine AWP.block ?_
  refine AWP.loopP (X := Nat) (fun i => ⟨[(0, ptr a.data), (3, eI i)], []⟩) (fun i => i ≤ a.pts.length ∧ ∀ j, j < i → ptB a.code.length a.pts j = true) (fun i => a.pts.length - i) 0 (Ent.env ⟨rfl, rfl, trivial⟩) ?_ (fun i hi => ?_)
  ·
   exact ⟨Nat.zero_le _, fun j hj => absurd hj (Nat.not_lt_zero j)⟩
  refine AWP.seq ?_
  refine jsr ?_
  iterate 5 refine jst hσ rfl rfl rfl rfl rfl ?_
  first | refine jle hσ rfl rfl rfl rfl rfl rfl rfl rfl rfl rfl rfl ?_ | refine jst hσ rfl rfl rfl rfl rfl ?_ | refine jvf hσ rfl rfl rfl rfl rfl ?_
  refine jst hσ rfl rfl rfl rfl rfl ?_
  refine jf [41, 0, 3] rfl ?_
  refine jn ?_
  refine AWP.cond hσ rfl rfl (fun hc41 => ?_) (fun hc41 => ?_)
  ·
   skip
   refine AWP.skip ?_
   refine AWP.seq ?_
   refine AWP.block ?_
   refine jsr ?_
   have hil : i < a.pts.length := by have := of_decide_eq_true hc41; omega
   iterate 5 refine jst hσ rfl rfl rfl rfl rfl ?_
   first | refine jin hσ rfl rfl rfl rfl rfl rfl rfl rfl rfl rfl rfl ?_ | refine jix hσ rfl rfl rfl rfl rfl rfl rfl rfl rfl rfl rfl ?_ | refine jvf hσ rfl rfl rfl rfl rfl ?_
   refine jst hσ rfl rfl rfl rfl rfl ?_
   refine jf [4, 41, 0, 3] rfl ?_
   refine jn ?_
   refine AWP.seq ?_
   refine AWP.mid (F := ⟨[(89, eB (bif (bif !(decide (0 ≤ (a.pts.getD i default).k) && decide ((a.pts.getD i default).k ≤ (a.code.length : Int) - 1)) then true else !terms (a.pts.getD i default).fs 6) then true else (bif decide ((0 : Int) < i) then decide ((a.pts.getD i default).k ≤ (a.pts.getD (i - 1) default).k) else false))), (0, ptr a.data), (3, eI i)], []⟩) ?_ ?_
   ·
    skip
    cases hb7 : !(decide (0 ≤ (a.pts.getD i default).k) && decide ((a.pts.getD i default).k ≤ (a.code.length : Int) - 1)) with
    | true =>
     refine AWP.drawG hσ _ (_ :: _ :: _ :: _ :: _ :: _ :: _ :: _ :: _ :: _ :: _ :: _ :: _ :: _ :: _ :: _ :: _ :: _ :: _ :: _ :: _ :: _ :: _ :: _ :: _ :: _ :: _ :: _ :: _ :: _ :: _ :: _ :: _ :: _ :: _ :: _ :: _ :: _ :: _ :: _ :: []) (⟨[], 0, 0, none⟩ :: ⟨[0], 0, 0, none⟩ :: ⟨[0, 1], 0, 0, none⟩ :: ⟨[0, 1, 2], 0, 0, none⟩ :: ⟨[], 0, 0, none⟩ :: ⟨[4], 0, 0, none⟩ :: ⟨[4, 5], 0, 0, none⟩ :: ⟨[4, 5, 6], 0, 0, none⟩ :: ⟨[4, 5, 6, 7], 0, 0, none⟩ :: ⟨[4, 5, 6, 7, 8], 0, 0, none⟩ :: ⟨[0, 1, 2, 3, 4, 5, 6, 7, 8, 9], 0, 0, some 0⟩ :: ⟨[0, 1, 2, 3, 4, 5, 6, 7, 8, 9, 10], 1, 1, none⟩ :: ⟨[0, 1, 2, 3, 4, 5, 6, 7, 8, 9, 10, 11], 1, 1, none⟩ :: ⟨[0, 1, 2, 3, 4, 5, 6, 7, 8, 9, 10, 11, 12], 0, 1, none⟩ :: ⟨[0, 1, 2, 3, 4, 5, 6, 7, 8, 9, 10, 11, 12, 13], 0, 1, none⟩ :: ⟨[0, 1, 2, 3, 4, 5, 6, 7, 8, 9, 10, 11, 12, 13, 14], 0, 1, none⟩ :: ⟨[0, 1, 2, 3, 4, 5, 6, 7, 8, 9, 10, 11, 12, 13, 14, 15], 0, 1, none⟩ :: ⟨[0, 1, 2, 3, 4, 5, 6, 7, 8, 9, 10, 11, 12, 13, 14, 15, 16], 0, 1, none⟩ :: ⟨[0, 1, 2, 3, 4, 5, 6, 7, 8, 9, 10, 11, 12, 13, 14, 15, 16, 17], 0, 1, none⟩ :: ⟨[0, 1, 2, 3, 4, 5, 6, 7, 8, 9, 10, 11, 12, 13, 14, 15, 16, 17, 18], 1, 1, none⟩ :: ⟨[0, 1, 2, 3, 4, 5, 6, 7, 8, 9, 10, 11, 12, 13, 14, 15, 16, 17, 18, 19], 1, 1, none⟩ :: ⟨[0, 1, 2, 3, 4, 5, 6, 7, 8, 9, 10, 11, 12, 13, 14, 15, 16, 17, 18, 19, 20], 0, 1, none⟩ :: ⟨[0, 1, 2, 3, 4, 5, 6, 7, 8, 9, 10, 11, 12, 13, 14, 15, 16, 17, 18, 19, 20, 21], 0, 1, none⟩ :: ⟨[0, 1, 2, 3, 4, 5, 6, 7, 8, 9, 10, 11, 12, 13, 14, 15, 16, 17, 18, 19, 20, 21, 22], 0, 1, none⟩ :: ⟨[0, 1, 2, 3, 4, 5, 6, 7, 8, 9, 10, 11, 12, 13, 14, 15, 16, 17, 18, 19, 20, 21, 22, 23], 0, 1, none⟩ :: ⟨[0, 1, 2, 3, 4, 5, 6, 7, 8, 9, 10, 11, 12, 13, 14, 15, 16, 17, 18, 19, 20, 21, 22, 23, 24], 0, 1, none⟩ :: ⟨[0, 1, 2, 3, 4, 5, 6, 7, 8, 9, 10, 11, 12, 13, 14, 15, 16, 17, 18, 19, 20, 21, 22, 23, 24, 25], 0, 1, none⟩ :: ⟨[0, 1, 2, 3, 4, 5, 6, 7, 8, 9, 10, 11, 12, 13, 14, 15, 16, 17, 18, 19, 20, 21, 22, 23, 24, 25, 26], 0, 1, none⟩ :: ⟨[0, 1, 2, 3, 4, 5, 6, 7, 8, 9, 10, 11, 12, 13, 14, 15, 16, 17, 18, 19, 20, 21, 22, 23], 0, 1, none⟩ :: ⟨[0, 1, 2, 3, 4, 5, 6, 7, 8, 9, 10, 11, 12, 13, 14, 15, 16, 17, 18, 19, 20, 21, 22, 23, 28], 0, 1, none⟩ :: ⟨[0, 1, 2, 3, 4, 5, 6, 7, 8, 9, 10, 11, 12, 13, 14, 15, 16, 17, 18, 19, 20, 21, 22, 23, 24, 25, 26, 27, 28, 29], 0, 1, none⟩ :: ⟨[0, 1, 2, 3, 4, 5, 6, 7, 8, 9, 10, 11, 12, 13, 14, 15, 16, 17, 18, 19, 20, 21, 22, 23, 24, 25, 26, 27, 28, 29, 30], 0, 1, none⟩ :: ⟨[0, 1, 2, 3, 4, 5, 6, 7, 8, 9, 10, 11, 12, 13, 14, 15, 16, 17, 18, 19, 20, 21, 22, 23, 24, 25, 26, 27, 28, 29, 30, 31], 0, 1, none⟩ :: ⟨[0, 1, 2, 3, 4, 5, 6, 7, 8, 9, 10, 11, 12, 13, 14, 15, 16, 17, 18, 19, 20, 21, 22, 23], 0, 1, none⟩ :: ⟨[0, 1, 2, 3, 4, 5, 6, 7, 8, 9, 10, 11, 12, 13, 14, 15, 16, 17, 18, 19, 20, 21, 22, 23, 33], 0, 1, none⟩ :: ⟨[0, 1, 2, 3, 4, 5, 6, 7, 8, 9, 10, 11, 12, 13, 14, 15, 16, 17, 18, 19, 20, 21, 22, 23, 33, 34], 0, 1, none⟩ :: ⟨[0, 1, 2, 3, 4, 5, 6, 7, 8, 9, 10, 11, 12, 13, 14, 15, 16, 17, 18, 19, 20, 21, 22, 23, 33, 34, 35], 0, 1, none⟩ :: ⟨[0, 1, 2, 3, 4, 5, 6, 7, 8, 9, 10, 11, 12, 13, 14, 15, 16, 17, 18, 19, 20, 21, 22, 23, 24, 25, 26, 27, 28, 29, 30, 31, 32, 33, 34, 35, 36], 0, 1, none⟩ :: ⟨[0, 1, 2, 3, 4, 5, 6, 7, 8, 9, 10, 11, 12, 13, 14, 15, 16, 17, 18, 19, 20, 21, 22, 23, 24, 25, 26, 27, 28, 29, 30, 31, 32, 33, 34, 35, 36, 37], 0, 1, none⟩ :: ⟨[0, 1, 2, 3, 4, 5, 6, 7, 8, 9, 10, 11, 12, 13, 14, 15, 16, 17, 18, 19, 20, 21, 22, 23, 24, 25, 26, 27, 28, 29, 30, 31, 32, 33, 34, 35, 36, 37, 38], 1, 1, none⟩ :: []) [10] [_, _] rfl rfl (by decide) (by decide) (by kernel_rfl) (And.intro (Val.of hσ rfl rfl) (And.intro (Val.of hσ rfl rfl) (And.intro (Val.of hσ rfl rfl) (And.intro (Val.of hσ rfl rfl) (And.intro (Val.of hσ rfl rfl) (And.intro (Val.of hσ rfl rfl) (And.intro (Val.of hσ rfl rfl) (And.intro (Val.of hσ rfl rfl) (And.intro (Val.lenD hσ rfl rfl rfl rfl rfl rfl rfl rfl) (And.intro (Val.fits64 hσ rfl rfl (by first | omega | (simp at *; omega)) (by first | omega | (simp at *; omega))) (And.intro (Eff.lone hσ (B0 := 61000) rfl rfl rfl rfl (c84 h1 h2) (VAs.self rfl) rfl rfl rfl rfl rfl) (And.intro (Val.of hσ rfl rfl) (And.intro ((Val.of hσ rfl rfl).cast (v' := eB true) (congrArg eB hb7)) (And.intro ⟨rfl, rfl⟩ (And.intro ⟨rfl, rfl⟩ (And.intro ⟨rfl, rfl⟩ (And.intro ⟨rfl, rfl⟩ (And.intro ⟨rfl, rfl⟩ (And.intro ⟨rfl, rfl⟩ (And.intro (Val.pickY hσ rfl rfl rfl rfl rfl) (And.intro (Val.of hσ rfl rfl) (And.intro ⟨rfl, rfl⟩ (And.intro ⟨rfl, rfl⟩ (And.intro ⟨rfl, rfl⟩ (And.intro ⟨rfl, rfl⟩ (And.intro ⟨rfl, rfl⟩ (And.intro ⟨rfl, rfl⟩ (And.intro ⟨rfl, rfl⟩ (And.intro ⟨rfl, rfl⟩ (And.intro ⟨rfl, rfl⟩ (And.intro ⟨rfl, rfl⟩ (And.intro ⟨rfl, rfl⟩ (And.intro ⟨rfl, rfl⟩ (And.intro ⟨rfl, rfl⟩ (And.intro ⟨rfl, rfl⟩ (And.intro ⟨rfl, rfl⟩ (And.intro ⟨rfl, rfl⟩ (And.intro ⟨rfl, rfl⟩ (And.intro ⟨rfl, rfl⟩ (And.intro (Val.pickY hσ rfl rfl rfl rfl rfl) trivial)))))))))))))))))))))))))))))))))))))))) ?_
     exact ⟨rfl, Ent.env ⟨rfl, rfl, rfl, trivial⟩⟩
    | false =>
     cases hb7b : !terms (a.pts.getD i default).fs 6 with
     | true =>
      refine AWP.drawG hσ _ (_ :: _ :: _ :: _ :: _ :: _ :: _ :: _ :: _ :: _ :: _ :: _ :: _ :: _ :: _ :: _ :: _ :: _ :: _ :: _ :: _ :: _ :: _ :: _ :: _ :: _ :: _ :: _ :: _ :: _ :: _ :: _ :: _ :: _ :: _ :: _ :: _ :: _ :: _ :: _ :: []) (⟨[], 0, 0, none⟩ :: ⟨[0], 0, 0, none⟩ :: ⟨[0, 1], 0, 0, none⟩ :: ⟨[0, 1, 2], 0, 0, none⟩ :: ⟨[], 0, 0, none⟩ :: ⟨[4], 0, 0, none⟩ :: ⟨[4, 5], 0, 0, none⟩ :: ⟨[4, 5, 6], 0, 0, none⟩ :: ⟨[4, 5, 6, 7], 0, 0, none⟩ :: ⟨[4, 5, 6, 7, 8], 0, 0, none⟩ :: ⟨[0, 1, 2, 3, 4, 5, 6, 7, 8, 9], 0, 0, some 0⟩ :: ⟨[0, 1, 2, 3, 4, 5, 6, 7, 8, 9, 10], 1, 1, none⟩ :: ⟨[0, 1, 2, 3, 4, 5, 6, 7, 8, 9, 10, 11], 1, 1, none⟩ :: ⟨[0, 1, 2, 3, 4, 5, 6, 7, 8, 9, 10, 11, 12], 1, 1, none⟩ :: ⟨[0, 1, 2, 3, 4, 5, 6, 7, 8, 9, 10, 11, 12, 13], 1, 1, none⟩ :: ⟨[0, 1, 2, 3, 4, 5, 6, 7, 8, 9, 10, 11, 12, 13, 14], 1, 1, none⟩ :: ⟨[0, 1, 2, 3, 4, 5, 6, 7, 8, 9, 10, 11, 12, 13, 14, 15], 1, 1, none⟩ :: ⟨[0, 1, 2, 3, 4, 5, 6, 7, 8, 9, 10, 11, 12, 13, 14, 15, 16], 0, 0, some 1⟩ :: ⟨[0, 1, 2, 3, 4, 5, 6, 7, 8, 9, 10, 11, 12, 13, 14, 15, 16, 17], 2, 2, none⟩ :: ⟨[0, 1, 2, 3, 4, 5, 6, 7, 8, 9, 10, 11, 12, 13, 14, 15, 16, 17, 18], 2, 2, none⟩ :: ⟨[0, 1, 2, 3, 4, 5, 6, 7, 8, 9, 10, 11, 12, 13, 14, 15, 16, 17, 18, 19], 2, 2, none⟩ :: ⟨[0, 1, 2, 3, 4, 5, 6, 7, 8, 9, 10, 11, 12, 13, 14, 15, 16, 17, 18, 19, 20], 0, 2, none⟩ :: ⟨[0, 1, 2, 3, 4, 5, 6, 7, 8, 9, 10, 11, 12, 13, 14, 15, 16, 17, 18, 19, 20, 21], 0, 2, none⟩ :: ⟨[0, 1, 2, 3, 4, 5, 6, 7, 8, 9, 10, 11, 12, 13, 14, 15, 16, 17, 18, 19, 20, 21, 22], 0, 2, none⟩ :: ⟨[0, 1, 2, 3, 4, 5, 6, 7, 8, 9, 10, 11, 12, 13, 14, 15, 16, 17, 18, 19, 20, 21, 22, 23], 0, 2, none⟩ :: ⟨[0, 1, 2, 3, 4, 5, 6, 7, 8, 9, 10, 11, 12, 13, 14, 15, 16, 17, 18, 19, 20, 21, 22, 23, 24], 0, 2, none⟩ :: ⟨[0, 1, 2, 3, 4, 5, 6, 7, 8, 9, 10, 11, 12, 13, 14, 15, 16, 17, 18, 19, 20, 21, 22, 23, 24, 25], 0, 2, none⟩ :: ⟨[0, 1, 2, 3, 4, 5, 6, 7, 8, 9, 10, 11, 12, 13, 14, 15, 16, 17, 18, 19, 20, 21, 22, 23, 24, 25, 26], 0, 2, none⟩ :: ⟨[0, 1, 2, 3, 4, 5, 6, 7, 8, 9, 10, 11, 12, 13, 14, 15, 16, 17, 18, 19, 20, 21, 22, 23], 0, 2, none⟩ :: ⟨[0, 1, 2, 3, 4, 5, 6, 7, 8, 9, 10, 11, 12, 13, 14, 15, 16, 17, 18, 19, 20, 21, 22, 23, 28], 0, 2, none⟩ :: ⟨[0, 1, 2, 3, 4, 5, 6, 7, 8, 9, 10, 11, 12, 13, 14, 15, 16, 17, 18, 19, 20, 21, 22, 23, 24, 25, 26, 27, 28, 29], 0, 2, none⟩ :: ⟨[0, 1, 2, 3, 4, 5, 6, 7, 8, 9, 10, 11, 12, 13, 14, 15, 16, 17, 18, 19, 20, 21, 22, 23, 24, 25, 26, 27, 28, 29, 30], 0, 2, none⟩ :: ⟨[0, 1, 2, 3, 4, 5, 6, 7, 8, 9, 10, 11, 12, 13, 14, 15, 16, 17, 18, 19, 20, 21, 22, 23, 24, 25, 26, 27, 28, 29, 30, 31], 0, 2, none⟩ :: ⟨[0, 1, 2, 3, 4, 5, 6, 7, 8, 9, 10, 11, 12, 13, 14, 15, 16, 17, 18, 19, 20, 21, 22, 23], 0, 2, none⟩ :: ⟨[0, 1, 2, 3, 4, 5, 6, 7, 8, 9, 10, 11, 12, 13, 14, 15, 16, 17, 18, 19, 20, 21, 22, 23, 33], 0, 2, none⟩ :: ⟨[0, 1, 2, 3, 4, 5, 6, 7, 8, 9, 10, 11, 12, 13, 14, 15, 16, 17, 18, 19, 20, 21, 22, 23, 33, 34], 0, 2, none⟩ :: ⟨[0, 1, 2, 3, 4, 5, 6, 7, 8, 9, 10, 11, 12, 13, 14, 15, 16, 17, 18, 19, 20, 21, 22, 23, 33, 34, 35], 0, 2, none⟩ :: ⟨[0, 1, 2, 3, 4, 5, 6, 7, 8, 9, 10, 11, 12, 13, 14, 15, 16, 17, 18, 19, 20, 21, 22, 23, 24, 25, 26, 27, 28, 29, 30, 31, 32, 33, 34, 35, 36], 0, 2, none⟩ :: ⟨[0, 1, 2, 3, 4, 5, 6, 7, 8, 9, 10, 11, 12, 13, 14, 15, 16, 17, 18, 19, 20, 21, 22, 23, 24, 25, 26, 27, 28, 29, 30, 31, 32, 33, 34, 35, 36, 37], 0, 2, none⟩ :: ⟨[0, 1, 2, 3, 4, 5, 6, 7, 8, 9, 10, 11, 12, 13, 14, 15, 16, 17, 18, 19, 20, 21, 22, 23, 24, 25, 26, 27, 28, 29, 30, 31, 32, 33, 34, 35, 36, 37, 38], 2, 2, none⟩ :: []) [10, 17] [_, _, _] rfl rfl (by decide) (by decide) (by kernel_rfl) (And.intro (Val.of hσ rfl rfl) (And.intro (Val.of hσ rfl rfl) (And.intro (Val.of hσ rfl rfl) (And.intro (Val.of hσ rfl rfl) (And.intro (Val.of hσ rfl rfl) (And.intro (Val.of hσ rfl rfl) (And.intro (Val.of hσ rfl rfl) (And.intro (Val.of hσ rfl rfl) (And.intro (Val.lenD hσ rfl rfl rfl rfl rfl rfl rfl rfl) (And.intro (Val.fits64 hσ rfl rfl (by first | omega | (simp at *; omega)) (by first | omega | (simp at *; omega))) (And.intro (Eff.lone hσ (B0 := 61000) rfl rfl rfl rfl (c84 h1 h2) (VAs.self rfl) rfl rfl rfl rfl rfl) (And.intro (Val.of hσ rfl rfl) (And.intro ((Val.of hσ rfl rfl).cast (v' := eB false) (congrArg eB hb7)) (And.intro (Val.of hσ rfl rfl) (And.intro (Val.of hσ rfl rfl) (And.intro (Val.of hσ rfl rfl) (And.intro (Val.of hσ rfl rfl) (And.intro (Eff.lone hσ (B0 := 68000) rfl rfl rfl rfl (c118 h1 h2) (VAs.self rfl) rfl rfl rfl rfl rfl) (And.intro (Val.of hσ rfl rfl) (And.intro (Val.pickN hσ rfl rfl rfl rfl rfl) (And.intro ((Val.of hσ rfl rfl).cast (v' := eB true) (congrArg eB hb7b)) (And.intro ⟨rfl, rfl⟩ (And.intro ⟨rfl, rfl⟩ (And.intro ⟨rfl, rfl⟩ (And.intro ⟨rfl, rfl⟩ (And.intro ⟨rfl, rfl⟩ (And.intro ⟨rfl, rfl⟩ (And.intro ⟨rfl, rfl⟩ (And.intro ⟨rfl, rfl⟩ (And.intro ⟨rfl, rfl⟩ (And.intro ⟨rfl, rfl⟩ (And.intro ⟨rfl, rfl⟩ (And.intro ⟨rfl, rfl⟩ (And.intro ⟨rfl, rfl⟩ (And.intro ⟨rfl, rfl⟩ (And.intro ⟨rfl, rfl⟩ (And.intro ⟨rfl, rfl⟩ (And.intro ⟨rfl, rfl⟩ (And.intro ⟨rfl, rfl⟩ (And.intro (Val.pickY hσ rfl rfl rfl rfl rfl) trivial)))))))))))))))))))))))))))))))))))))))) ?_
      exact ⟨rfl, Ent.env ⟨rfl, rfl, rfl, trivial⟩⟩
     | false =>
      cases hb7c : decide ((0 : Int) < i) with
      | true =>
       have hi0 : 0 < i := by have := of_decide_eq_true hb7c; omega
       refine AWP.drawG hσ _ (_ :: _ :: _ :: _ :: _ :: _ :: _ :: _ :: _ :: _ :: _ :: _ :: _ :: _ :: _ :: _ :: _ :: _ :: _ :: _ :: _ :: _ :: _ :: _ :: _ :: _ :: _ :: _ :: _ :: _ :: _ :: _ :: _ :: _ :: _ :: _ :: _ :: _ :: _ :: _ :: []) (⟨[], 0, 0, none⟩ :: ⟨[0], 0, 0, none⟩ :: ⟨[0, 1], 0, 0, none⟩ :: ⟨[0, 1, 2], 0, 0, none⟩ :: ⟨[], 0, 0, none⟩ :: ⟨[4], 0, 0, none⟩ :: ⟨[4, 5], 0, 0, none⟩ :: ⟨[4, 5, 6], 0, 0, none⟩ :: ⟨[4, 5, 6, 7], 0, 0, none⟩ :: ⟨[4, 5, 6, 7, 8], 0, 0, none⟩ :: ⟨[0, 1, 2, 3, 4, 5, 6, 7, 8, 9], 0, 0, some 0⟩ :: ⟨[0, 1, 2, 3, 4, 5, 6, 7, 8, 9, 10], 1, 1, none⟩ :: ⟨[0, 1, 2, 3, 4, 5, 6, 7, 8, 9, 10, 11], 1, 1, none⟩ :: ⟨[0, 1, 2, 3, 4, 5, 6, 7, 8, 9, 10, 11, 12], 1, 1, none⟩ :: ⟨[0, 1, 2, 3, 4, 5, 6, 7, 8, 9, 10, 11, 12, 13], 1, 1, none⟩ :: ⟨[0, 1, 2, 3, 4, 5, 6, 7, 8, 9, 10, 11, 12, 13, 14], 1, 1, none⟩ :: ⟨[0, 1, 2, 3, 4, 5, 6, 7, 8, 9, 10, 11, 12, 13, 14, 15], 1, 1, none⟩ :: ⟨[0, 1, 2, 3, 4, 5, 6, 7, 8, 9, 10, 11, 12, 13, 14, 15, 16], 0, 0, some 1⟩ :: ⟨[0, 1, 2, 3, 4, 5, 6, 7, 8, 9, 10, 11, 12, 13, 14, 15, 16, 17], 2, 2, none⟩ :: ⟨[0, 1, 2, 3, 4, 5, 6, 7, 8, 9, 10, 11, 12, 13, 14, 15, 16, 17, 18], 2, 2, none⟩ :: ⟨[0, 1, 2, 3, 4, 5, 6, 7, 8, 9, 10, 11, 12, 13, 14, 15, 16, 17, 18, 19], 2, 2, none⟩ :: ⟨[0, 1, 2, 3, 4, 5, 6, 7, 8, 9, 10, 11, 12, 13, 14, 15, 16, 17, 18, 19, 20], 2, 2, none⟩ :: ⟨[0, 1, 2, 3, 4, 5, 6, 7, 8, 9, 10, 11, 12, 13, 14, 15, 16, 17, 18, 19, 20, 21], 2, 2, none⟩ :: ⟨[0, 1, 2, 3, 4, 5, 6, 7, 8, 9, 10, 11, 12, 13, 14, 15, 16, 17, 18, 19, 20, 21, 22], 2, 2, none⟩ :: ⟨[0, 1, 2, 3, 4, 5, 6, 7, 8, 9, 10, 11, 12, 13, 14, 15, 16, 17, 18, 19, 20, 21, 22, 23], 2, 2, none⟩ :: ⟨[0, 1, 2, 3, 4, 5, 6, 7, 8, 9, 10, 11, 12, 13, 14, 15, 16, 17, 18, 19, 20, 21, 22, 23, 24], 2, 2, none⟩ :: ⟨[0, 1, 2, 3, 4, 5, 6, 7, 8, 9, 10, 11, 12, 13, 14, 15, 16, 17, 18, 19, 20, 21, 22, 23, 24, 25], 2, 2, none⟩ :: ⟨[0, 1, 2, 3, 4, 5, 6, 7, 8, 9, 10, 11, 12, 13, 14, 15, 16, 17, 18, 19, 20, 21, 22, 23, 24, 25, 26], 2, 2, none⟩ :: ⟨[0, 1, 2, 3, 4, 5, 6, 7, 8, 9, 10, 11, 12, 13, 14, 15, 16, 17, 18, 19, 20, 21, 22, 23], 2, 2, none⟩ :: ⟨[0, 1, 2, 3, 4, 5, 6, 7, 8, 9, 10, 11, 12, 13, 14, 15, 16, 17, 18, 19, 20, 21, 22, 23, 28], 2, 2, none⟩ :: ⟨[0, 1, 2, 3, 4, 5, 6, 7, 8, 9, 10, 11, 12, 13, 14, 15, 16, 17, 18, 19, 20, 21, 22, 23, 24, 25, 26, 27, 28, 29], 2, 2, none⟩ :: ⟨[0, 1, 2, 3, 4, 5, 6, 7, 8, 9, 10, 11, 12, 13, 14, 15, 16, 17, 18, 19, 20, 21, 22, 23, 24, 25, 26, 27, 28, 29, 30], 2, 2, none⟩ :: ⟨[0, 1, 2, 3, 4, 5, 6, 7, 8, 9, 10, 11, 12, 13, 14, 15, 16, 17, 18, 19, 20, 21, 22, 23, 24, 25, 26, 27, 28, 29, 30, 31], 2, 2, none⟩ :: ⟨[0, 1, 2, 3, 4, 5, 6, 7, 8, 9, 10, 11, 12, 13, 14, 15, 16, 17, 18, 19, 20, 21, 22, 23], 2, 2, none⟩ :: ⟨[0, 1, 2, 3, 4, 5, 6, 7, 8, 9, 10, 11, 12, 13, 14, 15, 16, 17, 18, 19, 20, 21, 22, 23, 33], 2, 2, none⟩ :: ⟨[0, 1, 2, 3, 4, 5, 6, 7, 8, 9, 10, 11, 12, 13, 14, 15, 16, 17, 18, 19, 20, 21, 22, 23, 33, 34], 2, 2, none⟩ :: ⟨[0, 1, 2, 3, 4, 5, 6, 7, 8, 9, 10, 11, 12, 13, 14, 15, 16, 17, 18, 19, 20, 21, 22, 23, 33, 34, 35], 2, 2, none⟩ :: ⟨[0, 1, 2, 3, 4, 5, 6, 7, 8, 9, 10, 11, 12, 13, 14, 15, 16, 17, 18, 19, 20, 21, 22, 23, 24, 25, 26, 27, 28, 29, 30, 31, 32, 33, 34, 35, 36], 2, 2, none⟩ :: ⟨[0, 1, 2, 3, 4, 5, 6, 7, 8, 9, 10, 11, 12, 13, 14, 15, 16, 17, 18, 19, 20, 21, 22, 23, 24, 25, 26, 27, 28, 29, 30, 31, 32, 33, 34, 35, 36, 37], 2, 2, none⟩ :: ⟨[0, 1, 2, 3, 4, 5, 6, 7, 8, 9, 10, 11, 12, 13, 14, 15, 16, 17, 18, 19, 20, 21, 22, 23, 24, 25, 26, 27, 28, 29, 30, 31, 32, 33, 34, 35, 36, 37, 38], 2, 2, none⟩ :: []) [10, 17] [_, _, _] rfl rfl (by decide) (by decide) (by kernel_rfl) (And.intro (Val.of hσ rfl rfl) (And.intro (Val.of hσ rfl rfl) (And.intro (Val.of hσ rfl rfl) (And.intro (Val.of hσ rfl rfl) (And.intro (Val.of hσ rfl rfl) (And.intro (Val.of hσ rfl rfl) (And.intro (Val.of hσ rfl rfl) (And.intro (Val.of hσ rfl rfl) (And.intro (Val.lenD hσ rfl rfl rfl rfl rfl rfl rfl rfl) (And.intro (Val.fits64 hσ rfl rfl (by first | omega | (simp at *; omega)) (by first | omega | (simp at *; omega))) (And.intro (Eff.lone hσ (B0 := 61000) rfl rfl rfl rfl (c84 h1 h2) (VAs.self rfl) rfl rfl rfl rfl rfl) (And.intro (Val.of hσ rfl rfl) (And.intro ((Val.of hσ rfl rfl).cast (v' := eB false) (congrArg eB hb7)) (And.intro (Val.of hσ rfl rfl) (And.intro (Val.of hσ rfl rfl) (And.intro (Val.of hσ rfl rfl) (And.intro (Val.of hσ rfl rfl) (And.intro (Eff.lone hσ (B0 := 68000) rfl rfl rfl rfl (c118 h1 h2) (VAs.self rfl) rfl rfl rfl rfl rfl) (And.intro (Val.of hσ rfl rfl) (And.intro (Val.pickN hσ rfl rfl rfl rfl rfl) (And.intro ((Val.of hσ rfl rfl).cast (v' := eB false) (congrArg eB hb7b)) (And.intro (Val.of hσ rfl rfl) (And.intro (Val.of hσ rfl rfl) (And.intro ((Val.of hσ rfl rfl).cast (v' := eB true) (congrArg eB hb7c)) (And.intro (Val.of hσ rfl rfl) (And.intro (Val.of hσ rfl rfl) (And.intro (Val.of hσ rfl rfl) (And.intro (Val.of hσ rfl rfl) (And.intro (Val.of hσ rfl rfl) (And.intro ((Val.fits64 hσ rfl rfl (by first | omega | (simp at *; omega)) (by first | omega | (simp at *; omega))).cast (v' := eI ((i - 1 : Nat) : Int)) (congrArg eI (by omega))) (And.intro (Val.indexN hσ rfl rfl rfl rfl rfl rfl rfl rfl (idxN (by first | omega | (simp at *; omega)))) (And.intro (Val.of hσ rfl rfl) (And.intro (Val.of hσ rfl rfl) (And.intro (Val.of hσ rfl rfl) (And.intro (Val.of hσ rfl rfl) (And.intro (Val.of hσ rfl rfl) (And.intro (Val.of hσ rfl rfl) (And.intro (Val.of hσ rfl rfl) (And.intro (Val.pickY hσ rfl rfl rfl rfl rfl) (And.intro (Val.pickN hσ rfl rfl rfl rfl rfl) trivial)))))))))))))))))))))))))))))))))))))))) ?_
       exact ⟨rfl, Ent.env ⟨rfl, rfl, rfl, trivial⟩⟩
      | false =>
       refine AWP.drawG hσ _ (_ :: _ :: _ :: _ :: _ :: _ :: _ :: _ :: _ :: _ :: _ :: _ :: _ :: _ :: _ :: _ :: _ :: _ :: _ :: _ :: _ :: _ :: _ :: _ :: _ :: _ :: _ :: _ :: _ :: _ :: _ :: _ :: _ :: _ :: _ :: _ :: _ :: _ :: _ :: _ :: []) (⟨[], 0, 0, none⟩ :: ⟨[0], 0, 0, none⟩ :: ⟨[0, 1], 0, 0, none⟩ :: ⟨[0, 1, 2], 0, 0, none⟩ :: ⟨[], 0, 0, none⟩ :: ⟨[4], 0, 0, none⟩ :: ⟨[4, 5], 0, 0, none⟩ :: ⟨[4, 5, 6], 0, 0, none⟩ :: ⟨[4, 5, 6, 7], 0, 0, none⟩ :: ⟨[4, 5, 6, 7, 8], 0, 0, none⟩ :: ⟨[0, 1, 2, 3, 4, 5, 6, 7, 8, 9], 0, 0, some 0⟩ :: ⟨[0, 1, 2, 3, 4, 5, 6, 7, 8, 9, 10], 1, 1, none⟩ :: ⟨[0, 1, 2, 3, 4, 5, 6, 7, 8, 9, 10, 11], 1, 1, none⟩ :: ⟨[0, 1, 2, 3, 4, 5, 6, 7, 8, 9, 10, 11, 12], 1, 1, none⟩ :: ⟨[0, 1, 2, 3, 4, 5, 6, 7, 8, 9, 10, 11, 12, 13], 1, 1, none⟩ :: ⟨[0, 1, 2, 3, 4, 5, 6, 7, 8, 9, 10, 11, 12, 13, 14], 1, 1, none⟩ :: ⟨[0, 1, 2, 3, 4, 5, 6, 7, 8, 9, 10, 11, 12, 13, 14, 15], 1, 1, none⟩ :: ⟨[0, 1, 2, 3, 4, 5, 6, 7, 8, 9, 10, 11, 12, 13, 14, 15, 16], 0, 0, some 1⟩ :: ⟨[0, 1, 2, 3, 4, 5, 6, 7, 8, 9, 10, 11, 12, 13, 14, 15, 16, 17], 2, 2, none⟩ :: ⟨[0, 1, 2, 3, 4, 5, 6, 7, 8, 9, 10, 11, 12, 13, 14, 15, 16, 17, 18], 2, 2, none⟩ :: ⟨[0, 1, 2, 3, 4, 5, 6, 7, 8, 9, 10, 11, 12, 13, 14, 15, 16, 17, 18, 19], 2, 2, none⟩ :: ⟨[0, 1, 2, 3, 4, 5, 6, 7, 8, 9, 10, 11, 12, 13, 14, 15, 16, 17, 18, 19, 20], 2, 2, none⟩ :: ⟨[0, 1, 2, 3, 4, 5, 6, 7, 8, 9, 10, 11, 12, 13, 14, 15, 16, 17, 18, 19, 20, 21], 2, 2, none⟩ :: ⟨[0, 1, 2, 3, 4, 5, 6, 7, 8, 9, 10, 11, 12, 13, 14, 15, 16, 17, 18, 19, 20, 21, 22], 2, 2, none⟩ :: ⟨[0, 1, 2, 3, 4, 5, 6, 7, 8, 9, 10, 11, 12, 13, 14, 15, 16, 17, 18, 19, 20, 21, 22, 23], 0, 2, none⟩ :: ⟨[0, 1, 2, 3, 4, 5, 6, 7, 8, 9, 10, 11, 12, 13, 14, 15, 16, 17, 18, 19, 20, 21, 22, 23, 24], 0, 2, none⟩ :: ⟨[0, 1, 2, 3, 4, 5, 6, 7, 8, 9, 10, 11, 12, 13, 14, 15, 16, 17, 18, 19, 20, 21, 22, 23, 24, 25], 0, 2, none⟩ :: ⟨[0, 1, 2, 3, 4, 5, 6, 7, 8, 9, 10, 11, 12, 13, 14, 15, 16, 17, 18, 19, 20, 21, 22, 23, 24, 25, 26], 0, 2, none⟩ :: ⟨[0, 1, 2, 3, 4, 5, 6, 7, 8, 9, 10, 11, 12, 13, 14, 15, 16, 17, 18, 19, 20, 21, 22, 23], 0, 2, none⟩ :: ⟨[0, 1, 2, 3, 4, 5, 6, 7, 8, 9, 10, 11, 12, 13, 14, 15, 16, 17, 18, 19, 20, 21, 22, 23, 28], 0, 2, none⟩ :: ⟨[0, 1, 2, 3, 4, 5, 6, 7, 8, 9, 10, 11, 12, 13, 14, 15, 16, 17, 18, 19, 20, 21, 22, 23, 24, 25, 26, 27, 28, 29], 0, 2, none⟩ :: ⟨[0, 1, 2, 3, 4, 5, 6, 7, 8, 9, 10, 11, 12, 13, 14, 15, 16, 17, 18, 19, 20, 21, 22, 23, 24, 25, 26, 27, 28, 29, 30], 0, 2, none⟩ :: ⟨[0, 1, 2, 3, 4, 5, 6, 7, 8, 9, 10, 11, 12, 13, 14, 15, 16, 17, 18, 19, 20, 21, 22, 23, 24, 25, 26, 27, 28, 29, 30, 31], 0, 2, none⟩ :: ⟨[0, 1, 2, 3, 4, 5, 6, 7, 8, 9, 10, 11, 12, 13, 14, 15, 16, 17, 18, 19, 20, 21, 22, 23], 0, 2, none⟩ :: ⟨[0, 1, 2, 3, 4, 5, 6, 7, 8, 9, 10, 11, 12, 13, 14, 15, 16, 17, 18, 19, 20, 21, 22, 23, 33], 0, 2, none⟩ :: ⟨[0, 1, 2, 3, 4, 5, 6, 7, 8, 9, 10, 11, 12, 13, 14, 15, 16, 17, 18, 19, 20, 21, 22, 23, 33, 34], 0, 2, none⟩ :: ⟨[0, 1, 2, 3, 4, 5, 6, 7, 8, 9, 10, 11, 12, 13, 14, 15, 16, 17, 18, 19, 20, 21, 22, 23, 33, 34, 35], 0, 2, none⟩ :: ⟨[0, 1, 2, 3, 4, 5, 6, 7, 8, 9, 10, 11, 12, 13, 14, 15, 16, 17, 18, 19, 20, 21, 22, 23, 24, 25, 26, 27, 28, 29, 30, 31, 32, 33, 34, 35, 36], 0, 2, none⟩ :: ⟨[0, 1, 2, 3, 4, 5, 6, 7, 8, 9, 10, 11, 12, 13, 14, 15, 16, 17, 18, 19, 20, 21, 22, 23, 24, 25, 26, 27, 28, 29, 30, 31, 32, 33, 34, 35, 36, 37], 2, 2, none⟩ :: ⟨[0, 1, 2, 3, 4, 5, 6, 7, 8, 9, 10, 11, 12, 13, 14, 15, 16, 17, 18, 19, 20, 21, 22, 23, 24, 25, 26, 27, 28, 29, 30, 31, 32, 33, 34, 35, 36, 37, 38], 2, 2, none⟩ :: []) [10, 17] [_, _, _] rfl rfl (by decide) (by decide) (by kernel_rfl) (And.intro (Val.of hσ rfl rfl) (And.intro (Val.of hσ rfl rfl) (And.intro (Val.of hσ rfl rfl) (And.intro (Val.of hσ rfl rfl) (And.intro (Val.of hσ rfl rfl) (And.intro (Val.of hσ rfl rfl) (And.intro (Val.of hσ rfl rfl) (And.intro (Val.of hσ rfl rfl) (And.intro (Val.lenD hσ rfl rfl rfl rfl rfl rfl rfl rfl) (And.intro (Val.fits64 hσ rfl rfl (by first | omega | (simp at *; omega)) (by first | omega | (simp at *; omega))) (And.intro (Eff.lone hσ (B0 := 61000) rfl rfl rfl rfl (c84 h1 h2) (VAs.self rfl) rfl rfl rfl rfl rfl) (And.intro (Val.of hσ rfl rfl) (And.intro ((Val.of hσ rfl rfl).cast (v' := eB false) (congrArg eB hb7)) (And.intro (Val.of hσ rfl rfl) (And.intro (Val.of hσ rfl rfl) (And.intro (Val.of hσ rfl rfl) (And.intro (Val.of hσ rfl rfl) (And.intro (Eff.lone hσ (B0 := 68000) rfl rfl rfl rfl (c118 h1 h2) (VAs.self rfl) rfl rfl rfl rfl rfl) (And.intro (Val.of hσ rfl rfl) (And.intro (Val.pickN hσ rfl rfl rfl rfl rfl) (And.intro ((Val.of hσ rfl rfl).cast (v' := eB false) (congrArg eB hb7b)) (And.intro (Val.of hσ rfl rfl) (And.intro (Val.of hσ rfl rfl) (And.intro ((Val.of hσ rfl rfl).cast (v' := eB false) (congrArg eB hb7c)) (And.intro ⟨rfl, rfl⟩ (And.intro ⟨rfl, rfl⟩ (And.intro ⟨rfl, rfl⟩ (And.intro ⟨rfl, rfl⟩ (And.intro ⟨rfl, rfl⟩ (And.intro ⟨rfl, rfl⟩ (And.intro ⟨rfl, rfl⟩ (And.intro ⟨rfl, rfl⟩ (And.intro ⟨rfl, rfl⟩ (And.intro ⟨rfl, rfl⟩ (And.intro ⟨rfl, rfl⟩ (And.intro ⟨rfl, rfl⟩ (And.intro ⟨rfl, rfl⟩ (And.intro ⟨rfl, rfl⟩ (And.intro (Val.pickN hσ rfl rfl rfl rfl rfl) (And.intro (Val.pickN hσ rfl rfl rfl rfl rfl) trivial)))))))))))))))))))))))))))))))))))))))) ?_
       exact ⟨rfl, Ent.env ⟨rfl, rfl, rfl, trivial⟩⟩
   refine AWP.cond hσ rfl rfl (fun hc89 => ?_) (fun hc89 => ?_)
   ·
    skip
    refine jsr ?_
    refine jst hσ rfl rfl rfl rfl rfl ?_
    refine jn ?_
    refine AWP.ret ?_
    refine ⟨.inl rfl, _, Ent.refl, _, rfl, ?_⟩
    rw [(ann_yes hc34).1, ptsB_not i hil (notF (pt_not.symm.trans hc89))]
   ·
    skip
    refine AWP.skip ?_
    refine AWP.region ?_
    refine jst hσ rfl rfl rfl rfl rfl ?_
    first | refine jfi hσ rfl rfl rfl rfl rfl ?_ | refine jvf hσ rfl rfl rfl rfl rfl ?_
    refine jst hσ rfl rfl rfl rfl rfl ?_
    refine jf [3, 89, 0] rfl ?_
    refine jn ?_
    have h9 : ptB a.code.length a.pts i = true := notT (pt_not.symm.trans hc89)
    refine ⟨i + 1, Ent.env ⟨rfl, rfl, trivial⟩, ⟨by omega, fun j hj => ?_⟩, by omega⟩
    by_cases e : j = i
    ·
     subst e; exact h9
    ·
     exact hi.2 j (by omega)
  ·
   skip
   refine AWP.exit ?_
   refine jsr ?_
   refine jst hσ rfl rfl rfl rfl rfl ?_
   refine jn ?_
   refine AWP.ret ?_
   refine ⟨.inl rfl, _, Ent.refl, _, rfl, ?_⟩
   rw [(ann_yes hc34).1, ptsB_of fun j hj => hi.2 j (by have := of_decide_eq_false hc41; omega)]
def ruleC (x y z : In) (H : List Int → Bool) : Nat × List In :=
  if H [0, 4] = true ∧ num (x.a * y.a) = true then (2, [⟨0, x.a * y.a⟩])
  else if H [0, 0, 3] = true ∧ num (x.a + y.a) = true then (3, [⟨0, x.a + y.a⟩])
  else if H [0, 1, 3] = true ∧ x.a = 0 then (3, [y])
  else if H [0, 1, 4, 3] = true ∧ x.a = 0 then (4, [y, z])
  else if (plainB x = true ∨ x.op = 4) ∧ H [x.op, 0, 3] = true ∧ y.a = 0 then (3, [x])
  else if plainB x = true ∧ H [x.op, 4] = true ∧ y.a = 1 then (2, [x])
  else if H [4, 4] = true ∧ num (x.a * y.a) = true then (2, [⟨4, x.a * y.a⟩])
  else (0, [])
theorem instr_a {x : In} (h : instrB x = true) : -1000000 ≤ x.a ∧ x.a ≤ 1000000 := by
  unfold instrB num inB at h
  split at h
  · simpa using h
  · split at h
    · simp at h; omega
    · split at h
      · simp at h; omega
      · split at h
        · simp at h; omega
        · split at h
          · simp at h; omega
          · cases h
abbrev resRu (r : Nat × List In) : A := .tup [eI r.1, ains r.2]
end Go.Al
namespace Go.Al
open Go.Proofs
set_option linter.unusedVariables false
/-! A list of which the first elements have been changed. -/
def upS {α : Type} (f : α → α) (l : List α) (i : Nat) : List α := (l.take i).map f ++ l.drop i
section
set_option linter.unusedSectionVars false
variable {α : Type} [Inhabited α] {f : α → α} {l : List α} {i : Nat} {g : α → List D}
theorem upS_zero : upS f l 0 = l := by simp [upS]
theorem upS_all : upS f l l.length = l.map f := by simp [upS]
theorem upS_len : (upS f l i).length = l.length := by simp only [upS, List.length_append, List.length_map, List.length_take, List.length_drop]; omega
theorem upS_get (hi : i < l.length) : ((upS f l i).map g)[i]? = some (g (l.getD i default)) := by
  have h1 : (upS f l i)[i]? = some (l.getD i default) := by
    rw [upS, List.getElem?_append_right (by simp; omega), List.length_map, List.length_take, List.getElem?_drop, getD_lt hi, show i + (i - min i l.length) = i by omega, List.getElem?_eq_getElem hi]
  rw [List.getElem?_map, h1]; rfl
theorem upS_set (hi : i < l.length) : (upS f l i).set i (f (l.getD i default)) = upS f l (i + 1) := by
  unfold upS
  rw [List.set_append_right _ _ (by simp; omega), List.length_map, List.length_take, show i - min i l.length = 0 by omega, List.drop_eq_getElem_cons hi, List.set_cons_zero, List.take_succ_eq_append_getElem hi, List.map_append, getD_lt hi, List.append_assoc]
  rfl
theorem upS_row (hi : i < l.length) {ds : List D} (h : g (f (l.getD i default)) = ds) : ((upS f l i).map g).set i ds = (upS f l (i + 1)).map g := by
  rw [← upS_set hi, List.map_set, h]
theorem upS_skip (hi : i < l.length) (h : f (l.getD i default) = l.getD i default) : upS f l (i + 1) = upS f l i := by
  rw [← upS_set hi, h]
  refine List.ext_getElem? fun j => ?_
  rw [List.getElem?_set]
  split
  · rename_i e; subst e
    have h1 : (upS f l i)[i]? = some (l.getD i default) := by
      rw [upS, List.getElem?_append_right (by simp; omega), List.length_map, List.length_take, List.getElem?_drop, getD_lt hi, show i + (i - min i l.length) = i by omega, List.getElem?_eq_getElem hi]
    rw [h1, if_pos (by rw [upS_len]; exact hi)]
  · rfl
theorem upS_getj {j : Nat} (hi : i < l.length) (hj : j = i) : ((upS f l i).map g)[j]? = some (g (l.getD i default)) := by subst hj; exact upS_get hi
theorem upS_rowj {j : Nat} (hi : i < l.length) (hj : j = i) {ds : List D} (h : g (f (l.getD i default)) = ds) : ((upS f l i).map g).set j ds = (upS f l (i + 1)).map g := by subst hj; exact upS_row hi h
end
theorem mem_gd {α : Type} [Inhabited α] {s : List α} {i : Nat} (h : i < s.length) : s.getD i default ∈ s := by rw [getD_lt h]; exact List.getElem_mem h
theorem in_scal {c : List In} : Scal (c.map In.cells) := Scal.map fun _ => rfl
theorem in_size {c : List In} : ∀ x ∈ c.map In.cells, x.length = 2 := by simp
abbrev crow (c : List In) : B := .row false 2 (c.map In.cells)
abbrev dprow (ps : List Pt) : B := .row false 2 (ps.map Pt.cells)
abbrev newC (a : An) (k n : Nat) (b : List In) : List In := a.code.take k ++ b ++ a.code.drop (k + n)
end Go.Al
namespace Go.Al
open Go.Proofs
set_option linter.unusedVariables false
set_option linter.unusedSimpArgs false
set_option maxRecDepth 10000
set_option maxHeartbeats 4000000
end Go.Al
namespace Go.Al
open Go.Proofs
set_option linter.unusedVariables false
set_option linter.unusedSimpArgs false
set_option maxRecDepth 10000
set_option maxHeartbeats 4000000
theorem c143o {L : Nat} (h1 : 4096 ≤ L) (h2 : L ≤ 1073741824) {t : Tm} : MC Tryz.prog L 88 [ptr t.cells] [] (Rows (.agg [.d (.int .i64 t.c), .rs 0 0 t.xs.length]) [nrow t.xs]) := by
 refine MC.rows ?_
 have hσ := SGok (nt := 13) h1 (Nat.le_trans h2 (by decide))
 refine MC.body hσ Tryz.func88 (by kernel_rfl) rfl rfl (Nat.le_of_ble_eq_true rfl) (fun hF => ?_)
 refine jsr ?_
 refine AOps.heap (HS.alloc hσ rfl rfl rfl rfl rfl) rfl ?_
 refine jn ?_
 refine AWP.seq ?_
 refine AWP.drawR hσ _ [_, _, _, _, _, _, _, _, _, _, _] [⟨[], 0, 1, none⟩, ⟨[0], 0, 1, none⟩, ⟨[0, 1], 0, 1, none⟩, ⟨[0, 1, 2], 0, 1, none⟩, ⟨[], 0, 0, none⟩, ⟨[4], 0, 0, none⟩, ⟨[4, 5], 0, 0, none⟩, ⟨[4, 5, 6], 0, 0, none⟩, ⟨[4, 5, 6, 7], 0, 0, some 0⟩, ⟨[0, 1, 2, 3, 4, 5, 6, 7, 8], 1, 1, none⟩, ⟨[0, 1, 2, 3, 4, 5, 6, 7, 8, 9], 0, 0, some 1⟩] [8, 10] [_, _, _] rfl rfl (by decide) (by decide) (by kernel_rfl) (And.intro (And.intro (Val.of hσ rfl rfl) (Val.of hσ rfl rfl)) (And.intro (And.intro (Val.of hσ rfl rfl) (Val.of hσ rfl rfl)) (And.intro (And.intro (Val.of hσ rfl rfl) (Val.of hσ rfl rfl)) (And.intro (And.intro (Val.of hσ rfl rfl) (Val.of hσ rfl rfl)) (And.intro (Val.of hσ rfl rfl) (And.intro (Val.of hσ rfl rfl) (And.intro (Val.of hσ rfl rfl) (And.intro (Val.of hσ rfl rfl) (And.intro (Eff.rows hσ (B0 := 12000) rfl rfl rfl rfl (c151 (xs := t.xs) h1 h2) (VAs.self rfl) rfl rfl rfl rfl rfl) (And.intro (Val.of hσ rfl rfl) (And.intro (Eff.storeBox hσ rfl rfl rfl rfl rfl rfl rfl rfl rfl rfl rfl rfl rfl) trivial))))))))))) ?_
 refine AWP.ret ?_
 refine ⟨.inl rfl, _, Ent.refl, _, rfl, [12000], by decide, rfl, rfl, rfl⟩
theorem c86o {L : Nat} (h1 : 4096 ≤ L) (h2 : L ≤ 1073741824) {ts : List Tm} : MC Tryz.prog L 52 [atms ts] [] (Rows (.c (.rs 0 0 ts.length)) [trow ts]) := by
 refine MC.rows ?_
 have hσ := SGok (nt := 20) h1 (Nat.le_trans h2 (by decide))
 refine MC.body hσ Tryz.func52 (by kernel_rfl) rfl rfl (Nat.le_of_ble_eq_true rfl) (fun hF => ?_)
 have hl : ts.length ≤ L := by simpa [As.fact, A.fact, M.fact, D.fact, Ds.fact] using hF.1.1
 refine jsr ?_
 refine jst hσ rfl rfl rfl rfl rfl ?_
 refine jns ?_
 refine AOps.heap (HS.lit hσ rfl rfl rfl) rfl ?_
 refine jnm ?_
 refine jst hσ rfl rfl rfl rfl rfl ?_
 refine jn ?_
 refine AWP.seq ?_
 refine jsr ?_
 refine jst hσ rfl rfl rfl rfl rfl ?_
 refine jn ?_
 refine AWP.block ?_
 refine AWP.loopP (X := Nat) (fun i => ⟨[(0, atms ts), (3, .c (.rs 900 0 i)), (4, eI i)], [(900, trow (ts.take i))]⟩) (fun i => i ≤ ts.length) (fun i => ts.length - i) 0 ((Ent.sub2 5 900 rfl rfl).trans (Ent.to ⟨rfl, rfl, rfl, trivial⟩ rfl)) ?_ (fun i hi => ?_)
 ·
  exact Nat.zero_le _
 refine AWP.seq ?_
 refine jsr ?_
 iterate 2 refine jst hσ rfl rfl rfl rfl rfl ?_
 first | refine jle hσ rfl rfl rfl rfl rfl rfl rfl rfl rfl rfl rfl ?_ | refine jst hσ rfl rfl rfl rfl rfl ?_ | refine jvf hσ rfl rfl rfl rfl rfl ?_
 refine jst hσ rfl rfl rfl rfl rfl ?_
 refine jf [9, 0, 3, 4] rfl ?_
 refine jn ?_
 refine AWP.cond hσ rfl rfl (fun hc9 => ?_) (fun hc9 => ?_)
 ·
  try simp only [jcs] at hc9
  refine AWP.skip ?_
  refine AWP.seq ?_
  refine AWP.block ?_
  refine AWP.region ?_
  iterate 3 refine jst hσ rfl rfl rfl rfl rfl ?_
  first | refine jin hσ rfl rfl rfl rfl rfl rfl rfl rfl rfl rfl rfl ?_ | refine jix hσ rfl rfl rfl rfl rfl rfl rfl rfl rfl rfl rfl ?_ | refine jvf hσ rfl rfl rfl rfl rfl ?_
  refine jf [15, 12, 9, 0, 3, 4] rfl ?_
  refine AOps.rows hσ (B0 := 17000) rfl rfl rfl rfl (c143o (t := ts.getD i default) h1 h2) (VAs.self rfl) rfl rfl rfl rfl rfl rfl ?_
  refine jnm ?_
  refine jf [16, 12, 9, 0, 3, 4] rfl ?_
  refine AOps.heap (HS.litAbs (ds := Tm.cells (ts.getD i default)) hσ rfl rfl rfl rfl rfl rfl rfl rfl rfl rfl (.d rfl (.rs rfl (List.length_map _).symm .nil)) rfl rfl rfl) rfl ?_
  refine jnm ?_
  refine jnm ?_
  refine jf [17, 12, 9, 0, 3, 4] rfl ?_
  refine AOps.heap (HS.appMove (zs := (ts.take (i + 1)).map Tm.cells) (n := i + 1) hσ rfl rfl rfl rfl rfl rfl rfl rfl rfl rfl rfl rfl rfl rfl rfl rfl (.row rfl (by simp; omega)) rfl rfl (by decide) rfl (by simp; omega) (by simp; omega) (by rw [List.take_succ_eq_append_getElem (by omega), List.map_append, getD_lt (by omega)]; rfl) (by simp; omega)) rfl ?_
  refine jnm ?_
  refine jnm ?_
  refine jst hσ rfl rfl rfl rfl rfl ?_
  refine jf [3, 9, 0, 4] rfl ?_
  refine jn ?_
  refine AWP.region ?_
  refine jst hσ rfl rfl rfl rfl rfl ?_
  first | refine jfi hσ rfl rfl rfl rfl rfl ?_ | refine jvf hσ rfl rfl rfl rfl rfl ?_
  refine jst hσ rfl rfl rfl rfl rfl ?_
  refine jf [4, 3, 9, 0] rfl ?_
  refine jn ?_
  refine ⟨i + 1, ((Ent.sel [18] (e' := [(0, _), (3, _), (4, _)]) rfl rfl ⟨rfl, rfl, rfl, trivial⟩ rfl).trans (Ent.sub2 18 900 rfl rfl)), by omega, by omega⟩
 ·
  try simp only [jcs] at hc9
  refine AWP.exit ?_
  refine jsr ?_
  iterate 2 refine jst hσ rfl rfl rfl rfl rfl ?_
  refine jn ?_
  refine AWP.ret ?_
  obtain rfl : i = ts.length := by omega
  rw [List.take_length]
  refine ⟨.inl rfl, _, Ent.refl, _, rfl, [900], by decide, rfl, rfl, rfl⟩
theorem c119 {L : Nat} (h1 : 4096 ≤ L) (h2 : L ≤ 1073741824) {a : An} : MC Tryz.prog L 71 [ptr a.data] [] (Rows (anRs a) [trow a.pre, trow a.post, irow a.code, prow a.pts]) := by
 refine MC.rows ?_
 have hσ := SGok (nt := 55) h1 (Nat.le_trans h2 (by decide))
 refine MC.body hσ Tryz.func71 (by kernel_rfl) rfl rfl (Nat.le_of_ble_eq_true rfl) (fun hF => ?_)
 have hl : a.code.length ≤ L := by simpa [As.fact, A.fact, M.fact, D.fact, Ds.fact] using hF.1.2.2.1.1
 have hlp : a.pts.length ≤ L := by simpa [As.fact, A.fact, M.fact, D.fact, Ds.fact] using hF.1.2.2.2.1.1
 refine jsr ?_
 refine AOps.heap (HS.alloc hσ rfl rfl rfl rfl rfl) rfl ?_
 refine jnm ?_
 refine jn ?_
 refine AWP.seq ?_
 refine AWP.drawS hσ _ [_, _, _, _, _, _, _, _, _, _, _, _, _, _, _, _, _, _, _] [⟨[], 0, 0, none⟩, ⟨[0], 0, 0, none⟩, ⟨[0, 1], 0, 0, none⟩, ⟨[0, 1, 2], 0, 0, none⟩, ⟨[0, 1, 2, 3], 0, 0, some 0⟩, ⟨[], 0, 1, none⟩, ⟨[5], 0, 1, none⟩, ⟨[5, 6], 0, 1, none⟩, ⟨[5, 6, 7], 0, 1, none⟩, ⟨[0, 1, 2, 3, 4, 5, 6, 7, 8], 0, 0, some 1⟩, ⟨[], 0, 2, none⟩, ⟨[], 0, 2, none⟩, ⟨[11], 0, 2, none⟩, ⟨[11, 12], 0, 2, none⟩, ⟨[11, 12, 13], 0, 2, none⟩, ⟨[0, 1, 2, 3, 4, 5, 6, 7, 8, 9, 10, 11, 12, 13, 14], 0, 0, some 2⟩, ⟨[0, 1, 2, 3, 4, 5, 6, 7, 8, 9, 10, 11, 12, 13, 14, 15], 3, 3, none⟩, ⟨[], 0, 3, none⟩, ⟨[0, 1, 2, 3, 4, 5, 6, 7, 8, 9, 10, 11, 12, 13, 14, 15, 16, 17], 0, 0, some 3⟩] [4, 9, 15, 18] 17 3 (.box [.d .nils, .d .nils, .d .nils, .d .nils]) [_, _, _, _] [_] [[], [], [], []] rfl rfl (by decide) (by decide) (by decide) rfl (by kernel_rfl) (And.intro (And.intro (and_flip (.inl (Val.of hσ rfl rfl)) (.inl (Val.of hσ rfl rfl))) rfl) (And.intro (And.intro (and_flip (.inl (Val.of hσ rfl rfl)) (.inl (Val.of hσ rfl rfl))) rfl) (And.intro (And.intro (and_flip (.inl (Val.of hσ rfl rfl)) (.inl (Val.of hσ rfl rfl))) rfl) (And.intro (And.intro (and_flip (.inl (Val.of hσ rfl rfl)) (.inl (Val.of hσ rfl rfl))) rfl) (And.intro (And.intro (and_flip (Eff.p (Eff.rows hσ (B0 := 10000) rfl rfl rfl rfl (c86o (ts := a.pre) h1 h2) (VAs.self rfl) rfl rfl rfl rfl rfl)) (Eff.p (Eff.rows hσ (B0 := 10000) rfl rfl rfl rfl (c86o (ts := a.pre) h1 h2) (VAs.self rfl) rfl rfl rfl rfl rfl))) rfl) (And.intro (And.intro (And.intro (and_flip (.inl (Val.of hσ rfl rfl)) (.inl (Val.of hσ rfl rfl))) rfl) (And.intro (and_flip (.inl (Val.of hσ rfl rfl)) (.inl (Val.of hσ rfl rfl))) rfl)) (And.intro (And.intro (And.intro (and_flip (.inl (Val.of hσ rfl rfl)) (.inl (Val.of hσ rfl rfl))) rfl) (And.intro (and_flip (.inl (Val.of hσ rfl rfl)) (.inl (Val.of hσ rfl rfl))) rfl)) (And.intro (And.intro (And.intro (and_flip (.inl (Val.of hσ rfl rfl)) (.inl (Val.of hσ rfl rfl))) rfl) (And.intro (and_flip (.inl (Val.of hσ rfl rfl)) (.inl (Val.of hσ rfl rfl))) rfl)) (And.intro (And.intro (And.intro (and_flip (.inl (Val.of hσ rfl rfl)) (.inl (Val.of hσ rfl rfl))) rfl) (And.intro (and_flip (.inl (Val.of hσ rfl rfl)) (.inl (Val.of hσ rfl rfl))) rfl)) (And.intro (And.intro (and_flip (Eff.p (Eff.rows hσ (B0 := 15000) rfl rfl rfl rfl (c86o (ts := a.post) h1 h2) (VAs.self rfl) rfl rfl rfl rfl rfl)) (Eff.p (Eff.rows hσ (B0 := 15000) rfl rfl rfl rfl (c86o (ts := a.post) h1 h2) (VAs.self rfl) rfl rfl rfl rfl rfl))) rfl) (And.intro (And.intro (And.intro (and_flip (.inr (Eff.litE hσ rfl rfl rfl rfl rfl rfl rfl (by repeat' (first | exact .nil | refine .skip ?_ | refine .cons rfl .row ?_ | refine .cons rfl (.box (FMs.keep rfl)) ?_)))) (.inr (Eff.litE hσ rfl rfl rfl rfl rfl rfl rfl (by repeat' (first | exact .nil | refine .skip ?_ | refine .cons rfl .row ?_ | refine .cons rfl (.box (FMs.keep rfl)) ?_))))) rfl) (And.intro (And.intro (and_flip (.inr (Eff.litE hσ rfl rfl rfl rfl rfl rfl rfl (by repeat' (first | exact .nil | refine .skip ?_ | refine .cons rfl .row ?_ | refine .cons rfl (.box (FMs.keep rfl)) ?_)))) (.inr (Eff.litE hσ rfl rfl rfl rfl rfl rfl rfl (by repeat' (first | exact .nil | refine .skip ?_ | refine .cons rfl .row ?_ | refine .cons rfl (.box (FMs.keep rfl)) ?_))))) rfl) (And.intro (and_flip (.inr (Eff.litE hσ rfl rfl rfl rfl rfl rfl rfl (by repeat' (first | exact .nil | refine .skip ?_ | refine .cons rfl .row ?_ | refine .cons rfl (.box (FMs.keep rfl)) ?_)))) (.inr (Eff.litE hσ rfl rfl rfl rfl rfl rfl rfl (by repeat' (first | exact .nil | refine .skip ?_ | refine .cons rfl .row ?_ | refine .cons rfl (.box (FMs.keep rfl)) ?_))))) rfl))) (And.intro (And.intro (And.intro (and_flip (.inl (Val.of hσ rfl rfl)) (.inl (Val.of hσ rfl rfl))) rfl) (And.intro (And.intro (and_flip (.inl (Val.of hσ rfl rfl)) (.inl (Val.of hσ rfl rfl))) rfl) (And.intro (and_flip (.inl (Val.of hσ rfl rfl)) (.inl (Val.of hσ rfl rfl))) rfl))) (And.intro (And.intro (And.intro (and_flip (.inl (Val.of hσ rfl rfl)) (.inl (Val.of hσ rfl rfl))) rfl) (And.intro (And.intro (and_flip (.inl (Val.of hσ rfl rfl)) (.inl (Val.of hσ rfl rfl))) rfl) (And.intro (and_flip (.inl (Val.of hσ rfl rfl)) (.inl (Val.of hσ rfl rfl))) rfl))) (And.intro (And.intro (And.intro (and_flip (.inl (Val.of hσ rfl rfl)) (.inl (Val.of hσ rfl rfl))) rfl) (And.intro (And.intro (and_flip (.inl (Val.of hσ rfl rfl)) (.inl (Val.of hσ rfl rfl))) rfl) (And.intro (and_flip (.inl (Val.of hσ rfl rfl)) (.inl (Val.of hσ rfl rfl))) rfl))) (And.intro (And.intro (And.intro (and_flip (.inl (Val.of hσ rfl rfl)) (.inl (Val.of hσ rfl rfl))) rfl) (And.intro (And.intro (and_flip (.inl (Val.of hσ rfl rfl)) (.inl (Val.of hσ rfl rfl))) rfl) (And.intro (and_flip (.inl (Val.of hσ rfl rfl)) (.inl (Val.of hσ rfl rfl))) rfl))) (And.intro (And.intro (and_flip (Eff.p (Eff.appNew (own := true) (xs := []) (ys := a.code.map In.cells) (zs := a.code.map In.cells) (n := a.code.length) hσ rfl rfl rfl rfl rfl rfl rfl rfl rfl rfl rfl rfl rfl rfl rfl rfl .ez (.slc (.inr in_scal)) (by simp) rfl (by simp; omega) (by simp; omega) rfl (by simp) rfl)) (Eff.p (Eff.appNew (own := true) (xs := []) (ys := a.code.map In.cells) (zs := a.code.map In.cells) (n := a.code.length) hσ rfl rfl rfl rfl rfl rfl rfl rfl rfl rfl rfl rfl rfl rfl rfl rfl .ez (.slc (.inr in_scal)) (by simp) rfl (by simp; omega) (by simp; omega) rfl (by simp) rfl))) rfl) (And.intro (And.intro (and_flip (.inl (Val.of hσ rfl rfl)) (.inl (Val.of hσ rfl rfl))) rfl) (And.intro (And.intro (And.intro (Eff.p (Eff.alloc hσ rfl rfl rfl rfl rfl rfl)) rfl) (And.intro (And.intro (Eff.p (Eff.alloc hσ rfl rfl rfl rfl rfl rfl)) rfl) (And.intro (And.intro (Eff.p (Eff.alloc hσ rfl rfl rfl rfl rfl rfl)) rfl) (And.intro (Eff.p (Eff.alloc hσ rfl rfl rfl rfl rfl rfl)) rfl)))) (And.intro (And.intro (and_flip trivial (Eff.p (Eff.storeBox hσ rfl rfl rfl rfl rfl rfl rfl rfl rfl rfl rfl rfl rfl))) rfl) trivial))))))))))))))))))) ?_
 refine jw [3, 2, 0] rfl ?_
 refine jnw ?_
 refine AWP.seq ?_
 refine jsr ?_
 refine jst hσ rfl rfl rfl rfl rfl ?_
 refine jn ?_
 refine AWP.block ?_
 refine AWP.loopP (X := Nat) (fun i => ⟨[(0, ptr a.data), (2, .c (.pt 2 0 0)), (3, .c (.pt 3 0 0)), (4, eI i)], [(2, .box [.d .nils, .d .nils, .d .nils, .d .nils]), (3, .box [.rs 10000 0 a.pre.length, .rs 15000 0 a.post.length, .rs 20 0 a.code.length, .rs 901 0 i]), (20, irow a.code), (901, prow (a.pts.take i)), (10000, trow a.pre), (15000, trow a.post)]⟩) (fun i => i ≤ a.pts.length) (fun i => a.pts.length - i) 0 ((Ent.nameBox 3 901 2 true 3 rfl rfl rfl).trans (Ent.to ⟨rfl, rfl, rfl, rfl, trivial⟩ rfl)) ?_ (fun i hi => ?_)
 ·
  exact Nat.zero_le _
 refine AWP.seq ?_
 refine jsr ?_
 iterate 5 refine jst hσ rfl rfl rfl rfl rfl ?_
 first | refine jle hσ rfl rfl rfl rfl rfl rfl rfl rfl rfl rfl rfl ?_ | refine jst hσ rfl rfl rfl rfl rfl ?_ | refine jvf hσ rfl rfl rfl rfl rfl ?_
 refine jst hσ rfl rfl rfl rfl rfl ?_
 refine jf [28, 0, 2, 3, 4] rfl ?_
 refine jn ?_
 refine AWP.cond hσ rfl rfl (fun hc28 => ?_) (fun hc28 => ?_)
 ·
  try simp only [jcs] at hc28
  refine AWP.skip ?_
  refine AWP.seq ?_
  refine AWP.block ?_
  refine AWP.drawP hσ _ [_, _, _, _, _, _, _, _, _, _, _, _, _, _, _, _, _, _, _, _, _, _, _, _] [⟨[], 0, 2, none⟩, ⟨[0], 0, 2, none⟩, ⟨[], 0, 1, none⟩, ⟨[2], 0, 1, none⟩, ⟨[2, 3], 0, 1, none⟩, ⟨[2, 3, 4], 0, 1, none⟩, ⟨[], 0, 1, none⟩, ⟨[2, 3, 4, 5, 6], 0, 1, none⟩, ⟨[2, 3, 4, 5, 6, 7], 0, 1, none⟩, ⟨[2, 3, 4, 5, 6, 7, 8], 0, 1, none⟩, ⟨[], 0, 0, none⟩, ⟨[10], 0, 0, none⟩, ⟨[10, 11], 0, 0, none⟩, ⟨[10, 11, 12], 0, 0, none⟩, ⟨[], 0, 0, none⟩, ⟨[10, 11, 12, 13, 14], 0, 0, none⟩, ⟨[10, 11, 12, 13, 14, 15], 0, 0, none⟩, ⟨[10, 11, 12, 13, 14, 15, 16], 0, 0, none⟩, ⟨[10, 11, 12, 13, 14, 15, 16, 17], 0, 0, some 0⟩, ⟨[2, 3, 4, 5, 6, 7, 8, 9, 10, 11, 12, 13, 14, 15, 16, 17, 18], 1, 1, none⟩, ⟨[2, 3, 4, 5, 6, 7, 8, 9, 10, 11, 12, 13, 14, 15, 16, 17, 18, 19], 0, 0, some 1⟩, ⟨[0, 1, 2, 3, 4, 5, 6, 7, 8, 9, 10, 11, 12, 13, 14, 15, 16, 17, 18, 19, 20], 0, 0, some 2⟩, ⟨[0, 1, 2, 3, 4, 5, 6, 7, 8, 9, 10, 11, 12, 13, 14, 15, 16, 17, 18, 19, 20, 21], 3, 3, none⟩, ⟨[0, 1, 2, 3, 4, 5, 6, 7, 8, 9, 10, 11, 12, 13, 14, 15, 16, 17, 18, 19, 20, 21, 22], 0, 0, some 3⟩] [18, 20, 21, 23] [_, _, _, _, _] [[], [50000], [901, 51], []] rfl rfl (by decide) (by decide) (by kernel_rfl) (And.intro (And.intro (And.intro (Val.of hσ rfl rfl) rfl) (And.intro (And.intro (Val.of hσ rfl rfl) rfl) (And.intro (Val.of hσ rfl rfl) rfl))) (And.intro (And.intro (And.intro (Val.of hσ rfl rfl) rfl) (And.intro (And.intro (Val.of hσ rfl rfl) rfl) (And.intro (Val.of hσ rfl rfl) rfl))) (And.intro (And.intro (And.intro (Val.of hσ rfl rfl) rfl) (And.intro (Val.of hσ rfl rfl) rfl)) (And.intro (And.intro (And.intro (Val.of hσ rfl rfl) rfl) (And.intro (Val.of hσ rfl rfl) rfl)) (And.intro (And.intro (And.intro (Val.of hσ rfl rfl) rfl) (And.intro (Val.of hσ rfl rfl) rfl)) (And.intro (And.intro (And.intro (Val.of hσ rfl rfl) rfl) (And.intro (Val.of hσ rfl rfl) rfl)) (And.intro (And.intro (And.intro (Val.of hσ rfl rfl) rfl) (And.intro (Val.of hσ rfl rfl) rfl)) (And.intro (And.intro (And.intro (Val.indexN hσ rfl rfl rfl rfl rfl rfl rfl rfl (idxN (by first | omega | (simp at *; omega)))) rfl) (And.intro (Val.indexN hσ rfl rfl rfl rfl rfl rfl rfl rfl (idxN (by first | omega | (simp at *; omega)))) rfl)) (And.intro (And.intro (And.intro (Val.of hσ rfl rfl) rfl) (And.intro (Val.of hσ rfl rfl) rfl)) (And.intro (And.intro (And.intro (Val.of hσ rfl rfl) rfl) (And.intro (Val.of hσ rfl rfl) rfl)) (And.intro (And.intro (Val.of hσ rfl rfl) rfl) (And.intro (And.intro (Val.of hσ rfl rfl) rfl) (And.intro (And.intro (Val.of hσ rfl rfl) rfl) (And.intro (And.intro (Val.of hσ rfl rfl) rfl) (And.intro (And.intro (Val.of hσ rfl rfl) rfl) (And.intro (And.intro (Val.indexN hσ rfl rfl rfl rfl rfl rfl rfl rfl (idxN (by first | omega | (simp at *; omega)))) rfl) (And.intro (And.intro (Val.of hσ rfl rfl) rfl) (And.intro (And.intro (Val.of hσ rfl rfl) rfl) (And.intro (And.intro (Eff.p (Eff.rows hσ (B0 := 50000) rfl rfl rfl rfl (c86o (ts := (a.pts.getD i default).fs) h1 h2) (VAs.self rfl) rfl rfl rfl rfl rfl)) rfl) (And.intro (And.intro (Val.of hσ rfl rfl) rfl) (And.intro (And.intro (Eff.litAbs (l := 50000) (ds := (a.pts.getD i default).cells) hσ rfl rfl rfl rfl rfl rfl rfl rfl rfl rfl rfl rfl (fun e => .d rfl (.rs rfl (List.length_map _).symm .nil)) rfl rfl) rfl) (And.intro (And.intro (Eff.appMove (xs := (a.pts.take i).map Pt.cells) (ys := [(a.pts.getD i default).cells]) (zs := (a.pts.take (i + 1)).map Pt.cells) (n := i + 1) hσ rfl rfl rfl rfl rfl rfl rfl rfl rfl rfl rfl rfl rfl rfl rfl rfl (.row rfl (by simp; omega)) rfl rfl (by decide) rfl (by simp; omega) (by simp; omega) (by rw [List.take_succ_eq_append_getElem (show i < a.pts.length by omega), getD_lt (show i < a.pts.length by omega), List.map_append]; rfl) (by simp; omega) rfl) rfl) (And.intro (And.intro (Val.of hσ rfl rfl) rfl) (And.intro (And.intro (Eff.p (Eff.storeBox hσ rfl rfl rfl rfl rfl rfl rfl rfl rfl rfl rfl rfl rfl)) rfl) trivial)))))))))))))))))))))))) ?_
  refine jw [28, 0, 2, 3, 4] rfl ?_
  refine jnw ?_
  refine AWP.region ?_
  refine jst hσ rfl rfl rfl rfl rfl ?_
  first | refine jfi hσ rfl rfl rfl rfl rfl ?_ | refine jvf hσ rfl rfl rfl rfl rfl ?_
  refine jst hσ rfl rfl rfl rfl rfl ?_
  refine jf [4, 28, 0, 2, 3] rfl ?_
  refine jn ?_
  refine ⟨i + 1, ((Ent.sel [2, 3, 20, 52, 10000, 15000] (e' := [(0, _), (2, _), (3, _), (4, _)]) rfl rfl ⟨rfl, rfl, rfl, rfl, trivial⟩ rfl).trans (Ent.sub2 52 901 rfl rfl)), by omega, by omega⟩
 ·
  try simp only [jcs] at hc28
  refine AWP.exit ?_
  refine jsr ?_
  refine jst hσ rfl rfl rfl rfl rfl ?_
  refine AOps.heap (HS.storeBox hσ rfl rfl rfl rfl rfl rfl rfl rfl rfl rfl rfl) rfl ?_
  refine jnm ?_
  refine jn ?_
  refine AWP.ret ?_
  obtain rfl : i = a.pts.length := by omega
  rw [List.take_length]
  refine ⟨.inl rfl, _, Ent.refl, _, rfl, [10000, 15000, 20, 901], by decide, rfl, rfl, rfl⟩
end Go.Al
