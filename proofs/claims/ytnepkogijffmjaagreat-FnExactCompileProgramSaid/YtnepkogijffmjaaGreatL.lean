/- Whether annotated code is valid; copies of terms. -/
import Derived.Test.YtnepkogijffmjaaGreatJ
namespace Go.Al
open Go.Proofs
set_option linter.unusedVariables false
set_option linter.unusedSimpArgs false
set_option maxRecDepth 10000
set_option maxHeartbeats 4000000
def restS (c : List In) (ps : List Pt) (k i : Nat) : List In := if i = 0 then sgt c ps k else segF (plB c ps) (k + i) (c.drop (k + i))
theorem pt_not {a : An} {i : Nat} : (bif (bif !(decide (0 ≤ (a.pts.getD i default).k) && decide ((a.pts.getD i default).k ≤ (a.code.length : Int) - 1)) then true else !terms (a.pts.getD i default).fs 6) then true else (bif decide ((0 : Int) < i) then decide ((a.pts.getD i default).k ≤ (a.pts.getD (i - 1) default).k) else false)) = !ptB a.code.length a.pts i := by
  unfold ptB inB
  rw [show decide ((0 : Int) < i) = decide (0 < i) from decide_eq_decide.2 (by omega)]
  cases decide (0 ≤ (a.pts.getD i default).k) <;> cases decide ((a.pts.getD i default).k ≤ (a.code.length : Int) - 1) <;> cases terms (a.pts.getD i default).fs 6 <;> cases decide (0 < i) <;> cases decide ((a.pts.getD i default).k ≤ (a.pts.getD (i - 1) default).k) <;> rfl
theorem ann_no {a : An} (h : (bif (bif (bif !codeB a.code then true else !terms a.pre 6) then true else !terms a.post 6) then true else decide ((8 : Int) < a.pts.length)) = true) : annB a = false := by
  unfold annB
  rw [show decide (a.pts.length ≤ 8) = !decide ((8 : Int) < a.pts.length) by rw [← decide_not]; exact decide_eq_decide.2 (by omega)]
  generalize codeB a.code = b1 at h ⊢
  generalize terms a.pre 6 = b2 at h ⊢
  generalize terms a.post 6 = b3 at h ⊢
  generalize decide ((8 : Int) < a.pts.length) = b at h ⊢
  cases b1 <;> cases b2 <;> cases b3 <;> cases b <;> simp_all
theorem ann_yes {a : An} (h : (bif (bif (bif !codeB a.code then true else !terms a.pre 6) then true else !terms a.post 6) then true else decide ((8 : Int) < a.pts.length)) = false) : annB a = ptsB a.code.length a.pts ∧ a.pts.length ≤ 8 ∧ codeB a.code = true := by
  unfold annB
  rw [show decide (a.pts.length ≤ 8) = !decide ((8 : Int) < a.pts.length) by rw [← decide_not]; exact decide_eq_decide.2 (by omega)]
  generalize codeB a.code = b1 at h ⊢
  generalize terms a.pre 6 = b2 at h ⊢
  generalize terms a.post 6 = b3 at h ⊢
  by_cases hb : (8 : Int) < a.pts.length
  · rw [decide_eq_true hb] at h
    cases b1 <;> cases b2 <;> cases b3 <;> cases h
  · rw [decide_eq_false hb] at h ⊢
    have h9 : a.pts.length ≤ 8 := by omega
    cases b1 <;> cases b2 <;> cases b3 <;> simp_all
theorem codeB_len {c : List In} (h : codeB c = true) : 1 ≤ c.length ∧ c.length ≤ 80 := by
  simp only [codeB, inB, Bool.and_eq_true, decide_eq_true_eq] at h; omega
theorem c67 {L : Nat} (h1 : 4096 ≤ L) (h2 : L ≤ 1073741824) {a : An} : MC Tryz.prog L 22 [ptr a.data] [] (Plain (eB (annB a))) := by
 refine MC.alone ?_ rfl
 have hσ := SGok (nt := 90) h1 (Nat.le_trans h2 (by decide))
 refine MC.body hσ Tryz.func22 (by kernel_rfl) rfl rfl (Nat.le_of_ble_eq_true rfl) (fun hF => ?_)
 have hl : a.code.length ≤ L := by simpa [As.fact, A.fact, M.fact, D.fact, Ds.fact] using hF.1.2.2.1.1
 have hlp : a.pts.length ≤ L := by simpa [As.fact, A.fact, M.fact, D.fact, Ds.fact] using hF.1.2.2.2.1.1
 refine jsr ?_
 refine jst hσ rfl rfl rfl rfl rfl ?_
 refine jn ?_
 refine AWP.seq ?_
 refine jsr ?_
 iterate 4 refine jst hσ rfl rfl rfl rfl rfl ?_
 refine AOps.reset [(8, _), (2, _), (0, _)] [] ⟨rfl, rfl, rfl, trivial⟩ rfl ?_
 refine AOps.lone hσ rfl rfl rfl rfl (c117 h1 h2) (VAs.self rfl) rfl rfl rfl rfl rfl (B0 := 10000) rfl ?_
 iterate 2 refine jst hσ rfl rfl rfl rfl rfl ?_
 refine AOps.reset [(11, _), (2, _), (0, _)] [] ⟨rfl, rfl, rfl, trivial⟩ rfl ?_
 refine AOps.gr 6 rfl rfl rfl (fun hx => AN.step hx rfl rfl rfl (Val.of hσ rfl rfl) rfl rfl ( AN.step hx rfl rfl rfl (Val.of hσ rfl rfl) rfl rfl ( AN.step hx rfl rfl rfl (Val.of hσ rfl rfl) rfl rfl ( AN.step hx rfl rfl rfl (Val.of hσ rfl rfl) rfl rfl ( AN.lone hσ hx rfl rfl rfl rfl (c118 h1 h2) (VAs.self rfl) rfl rfl rfl rfl rfl rfl rfl (B0 := 17000) rfl ( AN.step hx rfl rfl rfl (Val.of hσ rfl rfl) rfl rfl ( AN.nil))))))) rfl rfl ?_
 first | refine AOps.step (Val.pickF hσ rfl rfl rfl rfl rfl) rfl rfl rfl ?_ | refine AOps.step (Val.pickB hσ rfl rfl rfl rfl rfl) rfl rfl rfl ?_ | refine AOps.step (Val.pickT hσ rfl rfl rfl rfl rfl) rfl rfl rfl ?_
 refine jst hσ rfl rfl rfl rfl rfl ?_
 refine AOps.reset [(19, _), (2, _), (0, _)] [] ⟨rfl, rfl, rfl, trivial⟩ rfl ?_
 refine AOps.gr 6 rfl rfl rfl (fun hx => AN.step hx rfl rfl rfl (Val.of hσ rfl rfl) rfl rfl ( AN.step hx rfl rfl rfl (Val.of hσ rfl rfl) rfl rfl ( AN.step hx rfl rfl rfl (Val.of hσ rfl rfl) rfl rfl ( AN.step hx rfl rfl rfl (Val.of hσ rfl rfl) rfl rfl ( AN.lone hσ hx rfl rfl rfl rfl (c118 h1 h2) (VAs.self rfl) rfl rfl rfl rfl rfl rfl rfl (B0 := 25000) rfl ( AN.step hx rfl rfl rfl (Val.of hσ rfl rfl) rfl rfl ( AN.nil))))))) rfl rfl ?_
 first | refine AOps.step (Val.pickF hσ rfl rfl rfl rfl rfl) rfl rfl rfl ?_ | refine AOps.step (Val.pickB hσ rfl rfl rfl rfl rfl) rfl rfl rfl ?_ | refine AOps.step (Val.pickT hσ rfl rfl rfl rfl rfl) rfl rfl rfl ?_
 refine jst hσ rfl rfl rfl rfl rfl ?_
 refine AOps.reset [(27, _), (2, _), (0, _)] [] ⟨rfl, rfl, rfl, trivial⟩ rfl ?_
 refine AOps.gr 6 rfl rfl rfl (fun hx => AN.step hx rfl rfl rfl (Val.of hσ rfl rfl) rfl rfl ( AN.step hx rfl rfl rfl (Val.of hσ rfl rfl) rfl rfl ( AN.step hx rfl rfl rfl (Val.of hσ rfl rfl) rfl rfl ( AN.step hx rfl rfl rfl (Val.of hσ rfl rfl) rfl rfl ( AN.step hx rfl rfl rfl (Val.lenD hσ rfl rfl rfl rfl rfl rfl rfl rfl) rfl rfl ( AN.step hx rfl rfl rfl (Val.of hσ rfl rfl) rfl rfl ( AN.nil))))))) rfl rfl ?_
 first | refine AOps.step (Val.pickF hσ rfl rfl rfl rfl rfl) rfl rfl rfl ?_ | refine AOps.step (Val.pickB hσ rfl rfl rfl rfl rfl) rfl rfl rfl ?_ | refine AOps.step (Val.pickT hσ rfl rfl rfl rfl rfl) rfl rfl rfl ?_
 refine jf [34, 2, 0] rfl ?_
 refine jn ?_
 refine AWP.cond hσ rfl rfl (fun hc34 => ?_) (fun hc34 => ?_)
 ·
  skip
  refine jsr ?_
  refine jst hσ rfl rfl rfl rfl rfl ?_
  refine jn ?_
  refine AWP.ret ?_
  refine ⟨.inl rfl, _, Ent.refl, _, rfl, ?_⟩
  rw [ann_no hc34]
 ·
  skip
  refine AWP.skip ?_
  refine AWP.seq ?_
  refine jsr ?_
  refine jst hσ rfl rfl rfl rfl rfl ?_
  refine jn ?_
  refine AWP.block ?_
  refine AWP.loopP (X := Nat) (fun i => ⟨[(0, ptr a.data), (3, eI i)], []⟩) (fun i => i ≤ a.pts.length ∧ ∀ j, j < i → ptB a.code.length a.pts j = true) (fun i => a.pts.length - i) 0 (Ent.env ⟨rfl, rfl, trivial⟩) ?_ (fun i hi => ?_)
  ·
   exact ⟨Nat.zero_le _, fun j hj => absurd hj (Nat.not_lt_zero j)⟩
  refine AWP.seq ?_
  refine jsr ?_
  iterate 5 refine jst hσ rfl rfl rfl rfl rfl ?_
  first | refine jle hσ rfl rfl rfl rfl rfl rfl rfl rfl rfl rfl rfl ?_ | refine jst hσ rfl rfl rfl rfl rfl ?_ | refine jvf hσ rfl rfl rfl rfl rfl ?_
  refine jst hσ rfl rfl rfl rfl rfl ?_
  refine jf [41, 0, 3] rfl ?_
  refine jn ?_
  refine AWP.cond hσ rfl rfl (fun hc41 => ?_) (fun hc41 => ?_)
  ·
   skip
   refine AWP.skip ?_
   refine AWP.seq ?_
   refine AWP.block ?_
   refine jsr ?_
   have hil : i < a.pts.length := by have := of_decide_eq_true hc41; omega
   iterate 5 refine jst hσ rfl rfl rfl rfl rfl ?_
   first | refine jin hσ rfl rfl rfl rfl rfl rfl rfl rfl rfl rfl rfl ?_ | refine jix hσ rfl rfl rfl rfl rfl rfl rfl rfl rfl rfl rfl ?_ | refine jvf hσ rfl rfl rfl rfl rfl ?_
   refine jst hσ rfl rfl rfl rfl rfl ?_
   refine jf [4, 41, 0, 3] rfl ?_
   refine jn ?_
   refine AWP.seq ?_
   refine AWP.mid (F := ⟨[(89, eB (bif (bif !(decide (0 ≤ (a.pts.getD i default).k) && decide ((a.pts.getD i default).k ≤ (a.code.length : Int) - 1)) then true else !terms (a.pts.getD i default).fs 6) then true else (bif decide ((0 : Int) < i) then decide ((a.pts.getD i default).k ≤ (a.pts.getD (i - 1) default).k) else false))), (0, ptr a.data), (3, eI i)], []⟩) ?_ ?_
   ·
    skip
    cases hb7 : !(decide (0 ≤ (a.pts.getD i default).k) && decide ((a.pts.getD i default).k ≤ (a.code.length : Int) - 1)) with
    | true =>
     refine AWP.drawG hσ _ (_ :: _ :: _ :: _ :: _ :: _ :: _ :: _ :: _ :: _ :: _ :: _ :: _ :: _ :: _ :: _ :: _ :: _ :: _ :: _ :: _ :: _ :: _ :: _ :: _ :: _ :: _ :: _ :: _ :: _ :: _ :: _ :: _ :: _ :: _ :: _ :: _ :: _ :: _ :: _ :: []) (⟨[], 0, 0, none⟩ :: ⟨[0], 0, 0, none⟩ :: ⟨[0, 1], 0, 0, none⟩ :: ⟨[0, 1, 2], 0, 0, none⟩ :: ⟨[], 0, 0, none⟩ :: ⟨[4], 0, 0, none⟩ :: ⟨[4, 5], 0, 0, none⟩ :: ⟨[4, 5, 6], 0, 0, none⟩ :: ⟨[4, 5, 6, 7], 0, 0, none⟩ :: ⟨[4, 5, 6, 7, 8], 0, 0, none⟩ :: ⟨[0, 1, 2, 3, 4, 5, 6, 7, 8, 9], 0, 0, some 0⟩ :: ⟨[0, 1, 2, 3, 4, 5, 6, 7, 8, 9, 10], 1, 1, none⟩ :: ⟨[0, 1, 2, 3, 4, 5, 6, 7, 8, 9, 10, 11], 1, 1, none⟩ :: ⟨[0, 1, 2, 3, 4, 5, 6, 7, 8, 9, 10, 11, 12], 0, 1, none⟩ :: ⟨[0, 1, 2, 3, 4, 5, 6, 7, 8, 9, 10, 11, 12, 13], 0, 1, none⟩ :: ⟨[0, 1, 2, 3, 4, 5, 6, 7, 8, 9, 10, 11, 12, 13, 14], 0, 1, none⟩ :: ⟨[0, 1, 2, 3, 4, 5, 6, 7, 8, 9, 10, 11, 12, 13, 14, 15], 0, 1, none⟩ :: ⟨[0, 1, 2, 3, 4, 5, 6, 7, 8, 9, 10, 11, 12, 13, 14, 15, 16], 0, 1, none⟩ :: ⟨[0, 1, 2, 3, 4, 5, 6, 7, 8, 9, 10, 11, 12, 13, 14, 15, 16, 17], 0, 1, none⟩ :: ⟨[0, 1, 2, 3, 4, 5, 6, 7, 8, 9, 10, 11, 12, 13, 14, 15, 16, 17, 18], 1, 1, none⟩ :: ⟨[0, 1, 2, 3, 4, 5, 6, 7, 8, 9, 10, 11, 12, 13, 14, 15, 16, 17, 18, 19], 1, 1, none⟩ :: ⟨[0, 1, 2, 3, 4, 5, 6, 7, 8, 9, 10, 11, 12, 13, 14, 15, 16, 17, 18, 19, 20], 0, 1, none⟩ :: ⟨[0, 1, 2, 3, 4, 5, 6, 7, 8, 9, 10, 11, 12, 13, 14, 15, 16, 17, 18, 19, 20, 21], 0, 1, none⟩ :: ⟨[0, 1, 2, 3, 4, 5, 6, 7, 8, 9, 10, 11, 12, 13, 14, 15, 16, 17, 18, 19, 20, 21, 22], 0, 1, none⟩ :: ⟨[0, 1, 2, 3, 4, 5, 6, 7, 8, 9, 10, 11, 12, 13, 14, 15, 16, 17, 18, 19, 20, 21, 22, 23], 0, 1, none⟩ :: ⟨[0, 1, 2, 3, 4, 5, 6, 7, 8, 9, 10, 11, 12, 13, 14, 15, 16, 17, 18, 19, 20, 21, 22, 23, 24], 0, 1, none⟩ :: ⟨[0, 1, 2, 3, 4, 5, 6, 7, 8, 9, 10, 11, 12, 13, 14, 15, 16, 17, 18, 19, 20, 21, 22, 23, 24, 25], 0, 1, none⟩ :: ⟨[0, 1, 2, 3, 4, 5, 6, 7, 8, 9, 10, 11, 12, 13, 14, 15, 16, 17, 18, 19, 20, 21, 22, 23, 24, 25, 26], 0, 1, none⟩ :: ⟨[0, 1, 2, 3, 4, 5, 6, 7, 8, 9, 10, 11, 12, 13, 14, 15, 16, 17, 18, 19, 20, 21, 22, 23], 0, 1, none⟩ :: ⟨[0, 1, 2, 3, 4, 5, 6, 7, 8, 9, 10, 11, 12, 13, 14, 15, 16, 17, 18, 19, 20, 21, 22, 23, 28], 0, 1, none⟩ :: ⟨[0, 1, 2, 3, 4, 5, 6, 7, 8, 9, 10, 11, 12, 13, 14, 15, 16, 17, 18, 19, 20, 21, 22, 23, 24, 25, 26, 27, 28, 29], 0, 1, none⟩ :: ⟨[0, 1, 2, 3, 4, 5, 6, 7, 8, 9, 10, 11, 12, 13, 14, 15, 16, 17, 18, 19, 20, 21, 22, 23, 24, 25, 26, 27, 28, 29, 30], 0, 1, none⟩ :: ⟨[0, 1, 2, 3, 4, 5, 6, 7, 8, 9, 10, 11, 12, 13, 14, 15, 16, 17, 18, 19, 20, 21, 22, 23, 24, 25, 26, 27, 28, 29, 30, 31], 0, 1, none⟩ :: ⟨[0, 1, 2, 3, 4, 5, 6, 7, 8, 9, 10, 11, 12, 13, 14, 15, 16, 17, 18, 19, 20, 21, 22, 23], 0, 1, none⟩ :: ⟨[0, 1, 2, 3, 4, 5, 6, 7, 8, 9, 10, 11, 12, 13, 14, 15, 16, 17, 18, 19, 20, 21, 22, 23, 33], 0, 1, none⟩ :: ⟨[0, 1, 2, 3, 4, 5, 6, 7, 8, 9, 10, 11, 12, 13, 14, 15, 16, 17, 18, 19, 20, 21, 22, 23, 33, 34], 0, 1, none⟩ :: ⟨[0, 1, 2, 3, 4, 5, 6, 7, 8, 9, 10, 11, 12, 13, 14, 15, 16, 17, 18, 19, 20, 21, 22, 23, 33, 34, 35], 0, 1, none⟩ :: ⟨[0, 1, 2, 3, 4, 5, 6, 7, 8, 9, 10, 11, 12, 13, 14, 15, 16, 17, 18, 19, 20, 21, 22, 23, 24, 25, 26, 27, 28, 29, 30, 31, 32, 33, 34, 35, 36], 0, 1, none⟩ :: ⟨[0, 1, 2, 3, 4, 5, 6, 7, 8, 9, 10, 11, 12, 13, 14, 15, 16, 17, 18, 19, 20, 21, 22, 23, 24, 25, 26, 27, 28, 29, 30, 31, 32, 33, 34, 35, 36, 37], 0, 1, none⟩ :: ⟨[0, 1, 2, 3, 4, 5, 6, 7, 8, 9, 10, 11, 12, 13, 14, 15, 16, 17, 18, 19, 20, 21, 22, 23, 24, 25, 26, 27, 28, 29, 30, 31, 32, 33, 34, 35, 36, 37, 38], 1, 1, none⟩ :: []) [10] [_, _] rfl rfl (by decide) (by decide) (by kernel_rfl) (And.intro (Val.of hσ rfl rfl) (And.intro (Val.of hσ rfl rfl) (And.intro (Val.of hσ rfl rfl) (And.intro (Val.of hσ rfl rfl) (And.intro (Val.of hσ rfl rfl) (And.intro (Val.of hσ rfl rfl) (And.intro (Val.of hσ rfl rfl) (And.intro (Val.of hσ rfl rfl) (And.intro (Val.lenD hσ rfl rfl rfl rfl rfl rfl rfl rfl) (And.intro (Val.fits64 hσ rfl rfl (by first | omega | (simp at *; omega)) (by first | omega | (simp at *; omega))) (And.intro (Eff.lone hσ (B0 := 61000) rfl rfl rfl rfl (c84 h1 h2) (VAs.self rfl) rfl rfl rfl rfl rfl) (And.intro (Val.of hσ rfl rfl) (And.intro ((Val.of hσ rfl rfl).cast (v' := eB true) (congrArg eB hb7)) (And.intro ⟨rfl, rfl⟩ (And.intro ⟨rfl, rfl⟩ (And.intro ⟨rfl, rfl⟩ (And.intro ⟨rfl, rfl⟩ (And.intro ⟨rfl, rfl⟩ (And.intro ⟨rfl, rfl⟩ (And.intro (Val.pickY hσ rfl rfl rfl rfl rfl) (And.intro (Val.of hσ rfl rfl) (And.intro ⟨rfl, rfl⟩ (And.intro ⟨rfl, rfl⟩ (And.intro ⟨rfl, rfl⟩ (And.intro ⟨rfl, rfl⟩ (And.intro ⟨rfl, rfl⟩ (And.intro ⟨rfl, rfl⟩ (And.intro ⟨rfl, rfl⟩ (And.intro ⟨rfl, rfl⟩ (And.intro ⟨rfl, rfl⟩ (And.intro ⟨rfl, rfl⟩ (And.intro ⟨rfl, rfl⟩ (And.intro ⟨rfl, rfl⟩ (And.intro ⟨rfl, rfl⟩ (And.intro ⟨rfl, rfl⟩ (And.intro ⟨rfl, rfl⟩ (And.intro ⟨rfl, rfl⟩ (And.intro ⟨rfl, rfl⟩ (And.intro ⟨rfl, rfl⟩ (And.intro (Val.pickY hσ rfl rfl rfl rfl rfl) trivial)))))))))))))))))))))))))))))))))))))))) ?_
     exact ⟨rfl, Ent.env ⟨rfl, rfl, rfl, trivial⟩⟩
    | false =>
     cases hb7b : !terms (a.pts.getD i default).fs 6 with
     | true =>
      refine AWP.drawG hσ _ (_ :: _ :: _ :: _ :: _ :: _ :: _ :: _ :: _ :: _ :: _ :: _ :: _ :: _ :: _ :: _ :: _ :: _ :: _ :: _ :: _ :: _ :: _ :: _ :: _ :: _ :: _ :: _ :: _ :: _ :: _ :: _ :: _ :: _ :: _ :: _ :: _ :: _ :: _ :: _ :: []) (⟨[], 0, 0, none⟩ :: ⟨[0], 0, 0, none⟩ :: ⟨[0, 1], 0, 0, none⟩ :: ⟨[0, 1, 2], 0, 0, none⟩ :: ⟨[], 0, 0, none⟩ :: ⟨[4], 0, 0, none⟩ :: ⟨[4, 5], 0, 0, none⟩ :: ⟨[4, 5, 6], 0, 0, none⟩ :: ⟨[4, 5, 6, 7], 0, 0, none⟩ :: ⟨[4, 5, 6, 7, 8], 0, 0, none⟩ :: ⟨[0, 1, 2, 3, 4, 5, 6, 7, 8, 9], 0, 0, some 0⟩ :: ⟨[0, 1, 2, 3, 4, 5, 6, 7, 8, 9, 10], 1, 1, none⟩ :: ⟨[0, 1, 2, 3, 4, 5, 6, 7, 8, 9, 10, 11], 1, 1, none⟩ :: ⟨[0, 1, 2, 3, 4, 5, 6, 7, 8, 9, 10, 11, 12], 1, 1, none⟩ :: ⟨[0, 1, 2, 3, 4, 5, 6, 7, 8, 9, 10, 11, 12, 13], 1, 1, none⟩ :: ⟨[0, 1, 2, 3, 4, 5, 6, 7, 8, 9, 10, 11, 12, 13, 14], 1, 1, none⟩ :: ⟨[0, 1, 2, 3, 4, 5, 6, 7, 8, 9, 10, 11, 12, 13, 14, 15], 1, 1, none⟩ :: ⟨[0, 1, 2, 3, 4, 5, 6, 7, 8, 9, 10, 11, 12, 13, 14, 15, 16], 0, 0, some 1⟩ :: ⟨[0, 1, 2, 3, 4, 5, 6, 7, 8, 9, 10, 11, 12, 13, 14, 15, 16, 17], 2, 2, none⟩ :: ⟨[0, 1, 2, 3, 4, 5, 6, 7, 8, 9, 10, 11, 12, 13, 14, 15, 16, 17, 18], 2, 2, none⟩ :: ⟨[0, 1, 2, 3, 4, 5, 6, 7, 8, 9, 10, 11, 12, 13, 14, 15, 16, 17, 18, 19], 2, 2, none⟩ :: ⟨[0, 1, 2, 3, 4, 5, 6, 7, 8, 9, 10, 11, 12, 13, 14, 15, 16, 17, 18, 19, 20], 0, 2, none⟩ :: ⟨[0, 1, 2, 3, 4, 5, 6, 7, 8, 9, 10, 11, 12, 13, 14, 15, 16, 17, 18, 19, 20, 21], 0, 2, none⟩ :: ⟨[0, 1, 2, 3, 4, 5, 6, 7, 8, 9, 10, 11, 12, 13, 14, 15, 16, 17, 18, 19, 20, 21, 22], 0, 2, none⟩ :: ⟨[0, 1, 2, 3, 4, 5, 6, 7, 8, 9, 10, 11, 12, 13, 14, 15, 16, 17, 18, 19, 20, 21, 22, 23], 0, 2, none⟩ :: ⟨[0, 1, 2, 3, 4, 5, 6, 7, 8, 9, 10, 11, 12, 13, 14, 15, 16, 17, 18, 19, 20, 21, 22, 23, 24], 0, 2, none⟩ :: ⟨[0, 1, 2, 3, 4, 5, 6, 7, 8, 9, 10, 11, 12, 13, 14, 15, 16, 17, 18, 19, 20, 21, 22, 23, 24, 25], 0, 2, none⟩ :: ⟨[0, 1, 2, 3, 4, 5, 6, 7, 8, 9, 10, 11, 12, 13, 14, 15, 16, 17, 18, 19, 20, 21, 22, 23, 24, 25, 26], 0, 2, none⟩ :: ⟨[0, 1, 2, 3, 4, 5, 6, 7, 8, 9, 10, 11, 12, 13, 14, 15, 16, 17, 18, 19, 20, 21, 22, 23], 0, 2, none⟩ :: ⟨[0, 1, 2, 3, 4, 5, 6, 7, 8, 9, 10, 11, 12, 13, 14, 15, 16, 17, 18, 19, 20, 21, 22, 23, 28], 0, 2, none⟩ :: ⟨[0, 1, 2, 3, 4, 5, 6, 7, 8, 9, 10, 11, 12, 13, 14, 15, 16, 17, 18, 19, 20, 21, 22, 23, 24, 25, 26, 27, 28, 29], 0, 2, none⟩ :: ⟨[0, 1, 2, 3, 4, 5, 6, 7, 8, 9, 10, 11, 12, 13, 14, 15, 16, 17, 18, 19, 20, 21, 22, 23, 24, 25, 26, 27, 28, 29, 30], 0, 2, none⟩ :: ⟨[0, 1, 2, 3, 4, 5, 6, 7, 8, 9, 10, 11, 12, 13, 14, 15, 16, 17, 18, 19, 20, 21, 22, 23, 24, 25, 26, 27, 28, 29, 30, 31], 0, 2, none⟩ :: ⟨[0, 1, 2, 3, 4, 5, 6, 7, 8, 9, 10, 11, 12, 13, 14, 15, 16, 17, 18, 19, 20, 21, 22, 23], 0, 2, none⟩ :: ⟨[0, 1, 2, 3, 4, 5, 6, 7, 8, 9, 10, 11, 12, 13, 14, 15, 16, 17, 18, 19, 20, 21, 22, 23, 33], 0, 2, none⟩ :: ⟨[0, 1, 2, 3, 4, 5, 6, 7, 8, 9, 10, 11, 12, 13, 14, 15, 16, 17, 18, 19, 20, 21, 22, 23, 33, 34], 0, 2, none⟩ :: ⟨[0, 1, 2, 3, 4, 5, 6, 7, 8, 9, 10, 11, 12, 13, 14, 15, 16, 17, 18, 19, 20, 21, 22, 23, 33, 34, 35], 0, 2, none⟩ :: ⟨[0, 1, 2, 3, 4, 5, 6, 7, 8, 9, 10, 11, 12, 13, 14, 15, 16, 17, 18, 19, 20, 21, 22, 23, 24, 25, 26, 27, 28, 29, 30, 31, 32, 33, 34, 35, 36], 0, 2, none⟩ :: ⟨[0, 1, 2, 3, 4, 5, 6, 7, 8, 9, 10, 11, 12, 13, 14, 15, 16, 17, 18, 19, 20, 21, 22, 23, 24, 25, 26, 27, 28, 29, 30, 31, 32, 33, 34, 35, 36, 37], 0, 2, none⟩ :: ⟨[0, 1, 2, 3, 4, 5, 6, 7, 8, 9, 10, 11, 12, 13, 14, 15, 16, 17, 18, 19, 20, 21, 22, 23, 24, 25, 26, 27, 28, 29, 30, 31, 32, 33, 34, 35, 36, 37, 38], 2, 2, none⟩ :: []) [10, 17] [_, _, _] rfl rfl (by decide) (by decide) (by kernel_rfl) (And.intro (Val.of hσ rfl rfl) (And.intro (Val.of hσ rfl rfl) (And.intro (Val.of hσ rfl rfl) (And.intro (Val.of hσ rfl rfl) (And.intro (Val.of hσ rfl rfl) (And.intro (Val.of hσ rfl rfl) (And.intro (Val.of hσ rfl rfl) (And.intro (Val.of hσ rfl rfl) (And.intro (Val.lenD hσ rfl rfl rfl rfl rfl rfl rfl rfl) (And.intro (Val.fits64 hσ rfl rfl (by first | omega | (simp at *; omega)) (by first | omega | (simp at *; omega))) (And.intro (Eff.lone hσ (B0 := 61000) rfl rfl rfl rfl (c84 h1 h2) (VAs.self rfl) rfl rfl rfl rfl rfl) (And.intro (Val.of hσ rfl rfl) (And.intro ((Val.of hσ rfl rfl).cast (v' := eB false) (congrArg eB hb7)) (And.intro (Val.of hσ rfl rfl) (And.intro (Val.of hσ rfl rfl) (And.intro (Val.of hσ rfl rfl) (And.intro (Val.of hσ rfl rfl) (And.intro (Eff.lone hσ (B0 := 68000) rfl rfl rfl rfl (c118 h1 h2) (VAs.self rfl) rfl rfl rfl rfl rfl) (And.intro (Val.of hσ rfl rfl) (And.intro (Val.pickN hσ rfl rfl rfl rfl rfl) (And.intro ((Val.of hσ rfl rfl).cast (v' := eB true) (congrArg eB hb7b)) (And.intro ⟨rfl, rfl⟩ (And.intro ⟨rfl, rfl⟩ (And.intro ⟨rfl, rfl⟩ (And.intro ⟨rfl, rfl⟩ (And.intro ⟨rfl, rfl⟩ (And.intro ⟨rfl, rfl⟩ (And.intro ⟨rfl, rfl⟩ (And.intro ⟨rfl, rfl⟩ (And.intro ⟨rfl, rfl⟩ (And.intro ⟨rfl, rfl⟩ (And.intro ⟨rfl, rfl⟩ (And.intro ⟨rfl, rfl⟩ (And.intro ⟨rfl, rfl⟩ (And.intro ⟨rfl, rfl⟩ (And.intro ⟨rfl, rfl⟩ (And.intro ⟨rfl, rfl⟩ (And.intro ⟨rfl, rfl⟩ (And.intro ⟨rfl, rfl⟩ (And.intro (Val.pickY hσ rfl rfl rfl rfl rfl) trivial)))))))))))))))))))))))))))))))))))))))) ?_
      exact ⟨rfl, Ent.env ⟨rfl, rfl, rfl, trivial⟩⟩
     | false =>
      cases hb7c : decide ((0 : Int) < i) with
      | true =>
       have hi0 : 0 < i := by have := of_decide_eq_true hb7c; omega
       refine AWP.drawG hσ _ (_ :: _ :: _ :: _ :: _ :: _ :: _ :: _ :: _ :: _ :: _ :: _ :: _ :: _ :: _ :: _ :: _ :: _ :: _ :: _ :: _ :: _ :: _ :: _ :: _ :: _ :: _ :: _ :: _ :: _ :: _ :: _ :: _ :: _ :: _ :: _ :: _ :: _ :: _ :: _ :: []) (⟨[], 0, 0, none⟩ :: ⟨[0], 0, 0, none⟩ :: ⟨[0, 1], 0, 0, none⟩ :: ⟨[0, 1, 2], 0, 0, none⟩ :: ⟨[], 0, 0, none⟩ :: ⟨[4], 0, 0, none⟩ :: ⟨[4, 5], 0, 0, none⟩ :: ⟨[4, 5, 6], 0, 0, none⟩ :: ⟨[4, 5, 6, 7], 0, 0, none⟩ :: ⟨[4, 5, 6, 7, 8], 0, 0, none⟩ :: ⟨[0, 1, 2, 3, 4, 5, 6, 7, 8, 9], 0, 0, some 0⟩ :: ⟨[0, 1, 2, 3, 4, 5, 6, 7, 8, 9, 10], 1, 1, none⟩ :: ⟨[0, 1, 2, 3, 4, 5, 6, 7, 8, 9, 10, 11], 1, 1, none⟩ :: ⟨[0, 1, 2, 3, 4, 5, 6, 7, 8, 9, 10, 11, 12], 1, 1, none⟩ :: ⟨[0, 1, 2, 3, 4, 5, 6, 7, 8, 9, 10, 11, 12, 13], 1, 1, none⟩ :: ⟨[0, 1, 2, 3, 4, 5, 6, 7, 8, 9, 10, 11, 12, 13, 14], 1, 1, none⟩ :: ⟨[0, 1, 2, 3, 4, 5, 6, 7, 8, 9, 10, 11, 12, 13, 14, 15], 1, 1, none⟩ :: ⟨[0, 1, 2, 3, 4, 5, 6, 7, 8, 9, 10, 11, 12, 13, 14, 15, 16], 0, 0, some 1⟩ :: ⟨[0, 1, 2, 3, 4, 5, 6, 7, 8, 9, 10, 11, 12, 13, 14, 15, 16, 17], 2, 2, none⟩ :: ⟨[0, 1, 2, 3, 4, 5, 6, 7, 8, 9, 10, 11, 12, 13, 14, 15, 16, 17, 18], 2, 2, none⟩ :: ⟨[0, 1, 2, 3, 4, 5, 6, 7, 8, 9, 10, 11, 12, 13, 14, 15, 16, 17, 18, 19], 2, 2, none⟩ :: ⟨[0, 1, 2, 3, 4, 5, 6, 7, 8, 9, 10, 11, 12, 13, 14, 15, 16, 17, 18, 19, 20], 2, 2, none⟩ :: ⟨[0, 1, 2, 3, 4, 5, 6, 7, 8, 9, 10, 11, 12, 13, 14, 15, 16, 17, 18, 19, 20, 21], 2, 2, none⟩ :: ⟨[0, 1, 2, 3, 4, 5, 6, 7, 8, 9, 10, 11, 12, 13, 14, 15, 16, 17, 18, 19, 20, 21, 22], 2, 2, none⟩ :: ⟨[0, 1, 2, 3, 4, 5, 6, 7, 8, 9, 10, 11, 12, 13, 14, 15, 16, 17, 18, 19, 20, 21, 22, 23], 2, 2, none⟩ :: ⟨[0, 1, 2, 3, 4, 5, 6, 7, 8, 9, 10, 11, 12, 13, 14, 15, 16, 17, 18, 19, 20, 21, 22, 23, 24], 2, 2, none⟩ :: ⟨[0, 1, 2, 3, 4, 5, 6, 7, 8, 9, 10, 11, 12, 13, 14, 15, 16, 17, 18, 19, 20, 21, 22, 23, 24, 25], 2, 2, none⟩ :: ⟨[0, 1, 2, 3, 4, 5, 6, 7, 8, 9, 10, 11, 12, 13, 14, 15, 16, 17, 18, 19, 20, 21, 22, 23, 24, 25, 26], 2, 2, none⟩ :: ⟨[0, 1, 2, 3, 4, 5, 6, 7, 8, 9, 10, 11, 12, 13, 14, 15, 16, 17, 18, 19, 20, 21, 22, 23], 2, 2, none⟩ :: ⟨[0, 1, 2, 3, 4, 5, 6, 7, 8, 9, 10, 11, 12, 13, 14, 15, 16, 17, 18, 19, 20, 21, 22, 23, 28], 2, 2, none⟩ :: ⟨[0, 1, 2, 3, 4, 5, 6, 7, 8, 9, 10, 11, 12, 13, 14, 15, 16, 17, 18, 19, 20, 21, 22, 23, 24, 25, 26, 27, 28, 29], 2, 2, none⟩ :: ⟨[0, 1, 2, 3, 4, 5, 6, 7, 8, 9, 10, 11, 12, 13, 14, 15, 16, 17, 18, 19, 20, 21, 22, 23, 24, 25, 26, 27, 28, 29, 30], 2, 2, none⟩ :: ⟨[0, 1, 2, 3, 4, 5, 6, 7, 8, 9, 10, 11, 12, 13, 14, 15, 16, 17, 18, 19, 20, 21, 22, 23, 24, 25, 26, 27, 28, 29, 30, 31], 2, 2, none⟩ :: ⟨[0, 1, 2, 3, 4, 5, 6, 7, 8, 9, 10, 11, 12, 13, 14, 15, 16, 17, 18, 19, 20, 21, 22, 23], 2, 2, none⟩ :: ⟨[0, 1, 2, 3, 4, 5, 6, 7, 8, 9, 10, 11, 12, 13, 14, 15, 16, 17, 18, 19, 20, 21, 22, 23, 33], 2, 2, none⟩ :: ⟨[0, 1, 2, 3, 4, 5, 6, 7, 8, 9, 10, 11, 12, 13, 14, 15, 16, 17, 18, 19, 20, 21, 22, 23, 33, 34], 2, 2, none⟩ :: ⟨[0, 1, 2, 3, 4, 5, 6, 7, 8, 9, 10, 11, 12, 13, 14, 15, 16, 17, 18, 19, 20, 21, 22, 23, 33, 34, 35], 2, 2, none⟩ :: ⟨[0, 1, 2, 3, 4, 5, 6, 7, 8, 9, 10, 11, 12, 13, 14, 15, 16, 17, 18, 19, 20, 21, 22, 23, 24, 25, 26, 27, 28, 29, 30, 31, 32, 33, 34, 35, 36], 2, 2, none⟩ :: ⟨[0, 1, 2, 3, 4, 5, 6, 7, 8, 9, 10, 11, 12, 13, 14, 15, 16, 17, 18, 19, 20, 21, 22, 23, 24, 25, 26, 27, 28, 29, 30, 31, 32, 33, 34, 35, 36, 37], 2, 2, none⟩ :: ⟨[0, 1, 2, 3, 4, 5, 6, 7, 8, 9, 10, 11, 12, 13, 14, 15, 16, 17, 18, 19, 20, 21, 22, 23, 24, 25, 26, 27, 28, 29, 30, 31, 32, 33, 34, 35, 36, 37, 38], 2, 2, none⟩ :: []) [10, 17] [_, _, _] rfl rfl (by decide) (by decide) (by kernel_rfl) (And.intro (Val.of hσ rfl rfl) (And.intro (Val.of hσ rfl rfl) (And.intro (Val.of hσ rfl rfl) (And.intro (Val.of hσ rfl rfl) (And.intro (Val.of hσ rfl rfl) (And.intro (Val.of hσ rfl rfl) (And.intro (Val.of hσ rfl rfl) (And.intro (Val.of hσ rfl rfl) (And.intro (Val.lenD hσ rfl rfl rfl rfl rfl rfl rfl rfl) (And.intro (Val.fits64 hσ rfl rfl (by first | omega | (simp at *; omega)) (by first | omega | (simp at *; omega))) (And.intro (Eff.lone hσ (B0 := 61000) rfl rfl rfl rfl (c84 h1 h2) (VAs.self rfl) rfl rfl rfl rfl rfl) (And.intro (Val.of hσ rfl rfl) (And.intro ((Val.of hσ rfl rfl).cast (v' := eB false) (congrArg eB hb7)) (And.intro (Val.of hσ rfl rfl) (And.intro (Val.of hσ rfl rfl) (And.intro (Val.of hσ rfl rfl) (And.intro (Val.of hσ rfl rfl) (And.intro (Eff.lone hσ (B0 := 68000) rfl rfl rfl rfl (c118 h1 h2) (VAs.self rfl) rfl rfl rfl rfl rfl) (And.intro (Val.of hσ rfl rfl) (And.intro (Val.pickN hσ rfl rfl rfl rfl rfl) (And.intro ((Val.of hσ rfl rfl).cast (v' := eB false) (congrArg eB hb7b)) (And.intro (Val.of hσ rfl rfl) (And.intro (Val.of hσ rfl rfl) (And.intro ((Val.of hσ rfl rfl).cast (v' := eB true) (congrArg eB hb7c)) (And.intro (Val.of hσ rfl rfl) (And.intro (Val.of hσ rfl rfl) (And.intro (Val.of hσ rfl rfl) (And.intro (Val.of hσ rfl rfl) (And.intro (Val.of hσ rfl rfl) (And.intro ((Val.fits64 hσ rfl rfl (by first | omega | (simp at *; omega)) (by first | omega | (simp at *; omega))).cast (v' := eI ((i - 1 : Nat) : Int)) (congrArg eI (by omega))) (And.intro (Val.indexN hσ rfl rfl rfl rfl rfl rfl rfl rfl (idxN (by first | omega | (simp at *; omega)))) (And.intro (Val.of hσ rfl rfl) (And.intro (Val.of hσ rfl rfl) (And.intro (Val.of hσ rfl rfl) (And.intro (Val.of hσ rfl rfl) (And.intro (Val.of hσ rfl rfl) (And.intro (Val.of hσ rfl rfl) (And.intro (Val.of hσ rfl rfl) (And.intro (Val.pickY hσ rfl rfl rfl rfl rfl) (And.intro (Val.pickN hσ rfl rfl rfl rfl rfl) trivial)))))))))))))))))))))))))))))))))))))))) ?_
       exact ⟨rfl, Ent.env ⟨rfl, rfl, rfl, trivial⟩⟩
      | false =>
       refine AWP.drawG hσ _ (_ :: _ :: _ :: _ :: _ :: _ :: _ :: _ :: _ :: _ :: _ :: _ :: _ :: _ :: _ :: _ :: _ :: _ :: _ :: _ :: _ :: _ :: _ :: _ :: _ :: _ :: _ :: _ :: _ :: _ :: _ :: _ :: _ :: _ :: _ :: _ :: _ :: _ :: _ :: _ :: []) (⟨[], 0, 0, none⟩ :: ⟨[0], 0, 0, none⟩ :: ⟨[0, 1], 0, 0, none⟩ :: ⟨[0, 1, 2], 0, 0, none⟩ :: ⟨[], 0, 0, none⟩ :: ⟨[4], 0, 0, none⟩ :: ⟨[4, 5], 0, 0, none⟩ :: ⟨[4, 5, 6], 0, 0, none⟩ :: ⟨[4, 5, 6, 7], 0, 0, none⟩ :: ⟨[4, 5, 6, 7, 8], 0, 0, none⟩ :: ⟨[0, 1, 2, 3, 4, 5, 6, 7, 8, 9], 0, 0, some 0⟩ :: ⟨[0, 1, 2, 3, 4, 5, 6, 7, 8, 9, 10], 1, 1, none⟩ :: ⟨[0, 1, 2, 3, 4, 5, 6, 7, 8, 9, 10, 11], 1, 1, none⟩ :: ⟨[0, 1, 2, 3, 4, 5, 6, 7, 8, 9, 10, 11, 12], 1, 1, none⟩ :: ⟨[0, 1, 2, 3, 4, 5, 6, 7, 8, 9, 10, 11, 12, 13], 1, 1, none⟩ :: ⟨[0, 1, 2, 3, 4, 5, 6, 7, 8, 9, 10, 11, 12, 13, 14], 1, 1, none⟩ :: ⟨[0, 1, 2, 3, 4, 5, 6, 7, 8, 9, 10, 11, 12, 13, 14, 15], 1, 1, none⟩ :: ⟨[0, 1, 2, 3, 4, 5, 6, 7, 8, 9, 10, 11, 12, 13, 14, 15, 16], 0, 0, some 1⟩ :: ⟨[0, 1, 2, 3, 4, 5, 6, 7, 8, 9, 10, 11, 12, 13, 14, 15, 16, 17], 2, 2, none⟩ :: ⟨[0, 1, 2, 3, 4, 5, 6, 7, 8, 9, 10, 11, 12, 13, 14, 15, 16, 17, 18], 2, 2, none⟩ :: ⟨[0, 1, 2, 3, 4, 5, 6, 7, 8, 9, 10, 11, 12, 13, 14, 15, 16, 17, 18, 19], 2, 2, none⟩ :: ⟨[0, 1, 2, 3, 4, 5, 6, 7, 8, 9, 10, 11, 12, 13, 14, 15, 16, 17, 18, 19, 20], 2, 2, none⟩ :: ⟨[0, 1, 2, 3, 4, 5, 6, 7, 8, 9, 10, 11, 12, 13, 14, 15, 16, 17, 18, 19, 20, 21], 2, 2, none⟩ :: ⟨[0, 1, 2, 3, 4, 5, 6, 7, 8, 9, 10, 11, 12, 13, 14, 15, 16, 17, 18, 19, 20, 21, 22], 2, 2, none⟩ :: ⟨[0, 1, 2, 3, 4, 5, 6, 7, 8, 9, 10, 11, 12, 13, 14, 15, 16, 17, 18, 19, 20, 21, 22, 23], 0, 2, none⟩ :: ⟨[0, 1, 2, 3, 4, 5, 6, 7, 8, 9, 10, 11, 12, 13, 14, 15, 16, 17, 18, 19, 20, 21, 22, 23, 24], 0, 2, none⟩ :: ⟨[0, 1, 2, 3, 4, 5, 6, 7, 8, 9, 10, 11, 12, 13, 14, 15, 16, 17, 18, 19, 20, 21, 22, 23, 24, 25], 0, 2, none⟩ :: ⟨[0, 1, 2, 3, 4, 5, 6, 7, 8, 9, 10, 11, 12, 13, 14, 15, 16, 17, 18, 19, 20, 21, 22, 23, 24, 25, 26], 0, 2, none⟩ :: ⟨[0, 1, 2, 3, 4, 5, 6, 7, 8, 9, 10, 11, 12, 13, 14, 15, 16, 17, 18, 19, 20, 21, 22, 23], 0, 2, none⟩ :: ⟨[0, 1, 2, 3, 4, 5, 6, 7, 8, 9, 10, 11, 12, 13, 14, 15, 16, 17, 18, 19, 20, 21, 22, 23, 28], 0, 2, none⟩ :: ⟨[0, 1, 2, 3, 4, 5, 6, 7, 8, 9, 10, 11, 12, 13, 14, 15, 16, 17, 18, 19, 20, 21, 22, 23, 24, 25, 26, 27, 28, 29], 0, 2, none⟩ :: ⟨[0, 1, 2, 3, 4, 5, 6, 7, 8, 9, 10, 11, 12, 13, 14, 15, 16, 17, 18, 19, 20, 21, 22, 23, 24, 25, 26, 27, 28, 29, 30], 0, 2, none⟩ :: ⟨[0, 1, 2, 3, 4, 5, 6, 7, 8, 9, 10, 11, 12, 13, 14, 15, 16, 17, 18, 19, 20, 21, 22, 23, 24, 25, 26, 27, 28, 29, 30, 31], 0, 2, none⟩ :: ⟨[0, 1, 2, 3, 4, 5, 6, 7, 8, 9, 10, 11, 12, 13, 14, 15, 16, 17, 18, 19, 20, 21, 22, 23], 0, 2, none⟩ :: ⟨[0, 1, 2, 3, 4, 5, 6, 7, 8, 9, 10, 11, 12, 13, 14, 15, 16, 17, 18, 19, 20, 21, 22, 23, 33], 0, 2, none⟩ :: ⟨[0, 1, 2, 3, 4, 5, 6, 7, 8, 9, 10, 11, 12, 13, 14, 15, 16, 17, 18, 19, 20, 21, 22, 23, 33, 34], 0, 2, none⟩ :: ⟨[0, 1, 2, 3, 4, 5, 6, 7, 8, 9, 10, 11, 12, 13, 14, 15, 16, 17, 18, 19, 20, 21, 22, 23, 33, 34, 35], 0, 2, none⟩ :: ⟨[0, 1, 2, 3, 4, 5, 6, 7, 8, 9, 10, 11, 12, 13, 14, 15, 16, 17, 18, 19, 20, 21, 22, 23, 24, 25, 26, 27, 28, 29, 30, 31, 32, 33, 34, 35, 36], 0, 2, none⟩ :: ⟨[0, 1, 2, 3, 4, 5, 6, 7, 8, 9, 10, 11, 12, 13, 14, 15, 16, 17, 18, 19, 20, 21, 22, 23, 24, 25, 26, 27, 28, 29, 30, 31, 32, 33, 34, 35, 36, 37], 2, 2, none⟩ :: ⟨[0, 1, 2, 3, 4, 5, 6, 7, 8, 9, 10, 11, 12, 13, 14, 15, 16, 17, 18, 19, 20, 21, 22, 23, 24, 25, 26, 27, 28, 29, 30, 31, 32, 33, 34, 35, 36, 37, 38], 2, 2, none⟩ :: []) [10, 17] [_, _, _] rfl rfl (by decide) (by decide) (by kernel_rfl) (And.intro (Val.of hσ rfl rfl) (And.intro (Val.of hσ rfl rfl) (And.intro (Val.of hσ rfl rfl) (And.intro (Val.of hσ rfl rfl) (And.intro (Val.of hσ rfl rfl) (And.intro (Val.of hσ rfl rfl) (And.intro (Val.of hσ rfl rfl) (And.intro (Val.of hσ rfl rfl) (And.intro (Val.lenD hσ rfl rfl rfl rfl rfl rfl rfl rfl) (And.intro (Val.fits64 hσ rfl rfl (by first | omega | (simp at *; omega)) (by first | omega | (simp at *; omega))) (And.intro (Eff.lone hσ (B0 := 61000) rfl rfl rfl rfl (c84 h1 h2) (VAs.self rfl) rfl rfl rfl rfl rfl) (And.intro (Val.of hσ rfl rfl) (And.intro ((Val.of hσ rfl rfl).cast (v' := eB false) (congrArg eB hb7)) (And.intro (Val.of hσ rfl rfl) (And.intro (Val.of hσ rfl rfl) (And.intro (Val.of hσ rfl rfl) (And.intro (Val.of hσ rfl rfl) (And.intro (Eff.lone hσ (B0 := 68000) rfl rfl rfl rfl (c118 h1 h2) (VAs.self rfl) rfl rfl rfl rfl rfl) (And.intro (Val.of hσ rfl rfl) (And.intro (Val.pickN hσ rfl rfl rfl rfl rfl) (And.intro ((Val.of hσ rfl rfl).cast (v' := eB false) (congrArg eB hb7b)) (And.intro (Val.of hσ rfl rfl) (And.intro (Val.of hσ rfl rfl) (And.intro ((Val.of hσ rfl rfl).cast (v' := eB false) (congrArg eB hb7c)) (And.intro ⟨rfl, rfl⟩ (And.intro ⟨rfl, rfl⟩ (And.intro ⟨rfl, rfl⟩ (And.intro ⟨rfl, rfl⟩ (And.intro ⟨rfl, rfl⟩ (And.intro ⟨rfl, rfl⟩ (And.intro ⟨rfl, rfl⟩ (And.intro ⟨rfl, rfl⟩ (And.intro ⟨rfl, rfl⟩ (And.intro ⟨rfl, rfl⟩ (And.intro ⟨rfl, rfl⟩ (And.intro ⟨rfl, rfl⟩ (And.intro ⟨rfl, rfl⟩ (And.intro ⟨rfl, rfl⟩ (And.intro (Val.pickN hσ rfl rfl rfl rfl rfl) (And.intro (Val.pickN hσ rfl rfl rfl rfl rfl) trivial)))))))))))))))))))))))))))))))))))))))) ?_
       exact ⟨rfl, Ent.env ⟨rfl, rfl, rfl, trivial⟩⟩
   refine AWP.cond hσ rfl rfl (fun hc89 => ?_) (fun hc89 => ?_)
   ·
    skip
    refine jsr ?_
    refine jst hσ rfl rfl rfl rfl rfl ?_
    refine jn ?_
    refine AWP.ret ?_
    refine ⟨.inl rfl, _, Ent.refl, _, rfl, ?_⟩
    rw [(ann_yes hc34).1, ptsB_not i hil (notF (pt_not.symm.trans hc89))]
   ·
    skip
    refine AWP.skip ?_
    refine AWP.region ?_
    refine jst hσ rfl rfl rfl rfl rfl ?_
    first | refine jfi hσ rfl rfl rfl rfl rfl ?_ | refine jvf hσ rfl rfl rfl rfl rfl ?_
    refine jst hσ rfl rfl rfl rfl rfl ?_
    refine jf [3, 89, 0] rfl ?_
    refine jn ?_
    have h9 : ptB a.code.length a.pts i = true := notT (pt_not.symm.trans hc89)
    refine ⟨i + 1, Ent.env ⟨rfl, rfl, trivial⟩, ⟨by omega, fun j hj => ?_⟩, by omega⟩
    by_cases e : j = i
    ·
     subst e; exact h9
    ·
     exact hi.2 j (by omega)
  ·
   skip
   refine AWP.exit ?_
   refine jsr ?_
   refine jst hσ rfl rfl rfl rfl rfl ?_
   refine jn ?_
   refine AWP.ret ?_
   refine ⟨.inl rfl, _, Ent.refl, _, rfl, ?_⟩
   rw [(ann_yes hc34).1, ptsB_of fun j hj => hi.2 j (by have := of_decide_eq_false hc41; omega)]
def ruleC (x y z : In) (H : List Int → Bool) : Nat × List In :=
  if H [0, 4] = true ∧ num (x.a * y.a) = true then (2, [⟨0, x.a * y.a⟩])
  else if H [0, 0, 3] = true ∧ num (x.a + y.a) = true then (3, [⟨0, x.a + y.a⟩])
  else if H [0, 1, 3] = true ∧ x.a = 0 then (3, [y])
  else if H [0, 1, 4, 3] = true ∧ x.a = 0 then (4, [y, z])
  else if (plainB x = true ∨ x.op = 4) ∧ H [x.op, 0, 3] = true ∧ y.a = 0 then (3, [x])
  else if plainB x = true ∧ H [x.op, 4] = true ∧ y.a = 1 then (2, [x])
  else if H [4, 4] = true ∧ num (x.a * y.a) = true then (2, [⟨4, x.a * y.a⟩])
  else (0, [])
abbrev resRu (r : Nat × List In) : A := .tup [eI r.1, ains r.2]
end Go.Al
namespace Go.Al
open Go.Proofs
set_option linter.unusedVariables false
/-! A list of which the first elements have been changed. -/
def upS {α : Type} (f : α → α) (l : List α) (i : Nat) : List α := (l.take i).map f ++ l.drop i
section
set_option linter.unusedSectionVars false
variable {α : Type} [Inhabited α] {f : α → α} {l : List α} {i : Nat} {g : α → List D}
end
abbrev crow (c : List In) : B := .row false 2 (c.map In.cells)
abbrev dprow (ps : List Pt) : B := .row false 2 (ps.map Pt.cells)
abbrev newC (a : An) (k n : Nat) (b : List In) : List In := a.code.take k ++ b ++ a.code.drop (k + n)
end Go.Al
namespace Go.Al
open Go.Proofs
set_option linter.unusedVariables false
set_option linter.unusedSimpArgs false
set_option maxRecDepth 10000
set_option maxHeartbeats 4000000
end Go.Al
namespace Go.Al
open Go.Proofs
set_option linter.unusedVariables false
set_option linter.unusedSimpArgs false
set_option maxRecDepth 10000
set_option maxHeartbeats 4000000
theorem c143o {L : Nat} (h1 : 4096 ≤ L) (h2 : L ≤ 1073741824) {t : Tm} : MC Tryz.prog L 88 [ptr t.cells] [] (Rows (.agg [.d (.int .i64 t.c), .rs 0 0 t.xs.length]) [nrow t.xs]) := by
 refine MC.rows ?_
 have hσ := SGok (nt := 13) h1 (Nat.le_trans h2 (by decide))
 refine MC.body hσ Tryz.func88 (by kernel_rfl) rfl rfl (Nat.le_of_ble_eq_true rfl) (fun hF => ?_)
 refine jsr ?_
 refine AOps.heap (HS.alloc hσ rfl rfl rfl rfl rfl) rfl ?_
 refine jn ?_
 refine AWP.seq ?_
 refine AWP.drawR hσ _ [_, _, _, _, _, _, _, _, _, _, _] [⟨[], 0, 1, none⟩, ⟨[0], 0, 1, none⟩, ⟨[0, 1], 0, 1, none⟩, ⟨[0, 1, 2], 0, 1, none⟩, ⟨[], 0, 0, none⟩, ⟨[4], 0, 0, none⟩, ⟨[4, 5], 0, 0, none⟩, ⟨[4, 5, 6], 0, 0, none⟩, ⟨[4, 5, 6, 7], 0, 0, some 0⟩, ⟨[0, 1, 2, 3, 4, 5, 6, 7, 8], 1, 1, none⟩, ⟨[0, 1, 2, 3, 4, 5, 6, 7, 8, 9], 0, 0, some 1⟩] [8, 10] [_, _, _] rfl rfl (by decide) (by decide) (by kernel_rfl) (And.intro (And.intro (Val.of hσ rfl rfl) (Val.of hσ rfl rfl)) (And.intro (And.intro (Val.of hσ rfl rfl) (Val.of hσ rfl rfl)) (And.intro (And.intro (Val.of hσ rfl rfl) (Val.of hσ rfl rfl)) (And.intro (And.intro (Val.of hσ rfl rfl) (Val.of hσ rfl rfl)) (And.intro (Val.of hσ rfl rfl) (And.intro (Val.of hσ rfl rfl) (And.intro (Val.of hσ rfl rfl) (And.intro (Val.of hσ rfl rfl) (And.intro (Eff.rows hσ (B0 := 12000) rfl rfl rfl rfl (c151 (xs := t.xs) h1 h2) (VAs.self rfl) rfl rfl rfl rfl rfl) (And.intro (Val.of hσ rfl rfl) (And.intro (Eff.storeBox hσ rfl rfl rfl rfl rfl rfl rfl rfl rfl rfl rfl rfl rfl) trivial))))))))))) ?_
 refine AWP.ret ?_
 refine ⟨.inl rfl, _, Ent.refl, _, rfl, [12000], by decide, rfl, rfl, rfl⟩
theorem c86o {L : Nat} (h1 : 4096 ≤ L) (h2 : L ≤ 1073741824) {ts : List Tm} : MC Tryz.prog L 52 [atms ts] [] (Rows (.c (.rs 0 0 ts.length)) [trow ts]) := by
 refine MC.rows ?_
 have hσ := SGok (nt := 20) h1 (Nat.le_trans h2 (by decide))
 refine MC.body hσ Tryz.func52 (by kernel_rfl) rfl rfl (Nat.le_of_ble_eq_true rfl) (fun hF => ?_)
 have hl : ts.length ≤ L := by simpa [As.fact, A.fact, M.fact, D.fact, Ds.fact] using hF.1.1
 refine jsr ?_
 refine jst hσ rfl rfl rfl rfl rfl ?_
 refine jns ?_
 refine AOps.heap (HS.lit hσ rfl rfl rfl) rfl ?_
 refine jnm ?_
 refine jst hσ rfl rfl rfl rfl rfl ?_
 refine jn ?_
 refine AWP.seq ?_
 refine jsr ?_
 refine jst hσ rfl rfl rfl rfl rfl ?_
 refine jn ?_
 refine AWP.block ?_
 refine AWP.loopP (X := Nat) (fun i => ⟨[(0, atms ts), (3, .c (.rs 900 0 i)), (4, eI i)], [(900, trow (ts.take i))]⟩) (fun i => i ≤ ts.length) (fun i => ts.length - i) 0 ((Ent.sub2 5 900 rfl rfl).trans (Ent.to ⟨rfl, rfl, rfl, trivial⟩ rfl)) ?_ (fun i hi => ?_)
 ·
  exact Nat.zero_le _
 refine AWP.seq ?_
 refine jsr ?_
 iterate 2 refine jst hσ rfl rfl rfl rfl rfl ?_
 first | refine jle hσ rfl rfl rfl rfl rfl rfl rfl rfl rfl rfl rfl ?_ | refine jst hσ rfl rfl rfl rfl rfl ?_ | refine jvf hσ rfl rfl rfl rfl rfl ?_
 refine jst hσ rfl rfl rfl rfl rfl ?_
 refine jf [9, 0, 3, 4] rfl ?_
 refine jn ?_
 refine AWP.cond hσ rfl rfl (fun hc9 => ?_) (fun hc9 => ?_)
 ·
  try simp only [jcs] at hc9
  refine AWP.skip ?_
  refine AWP.seq ?_
  refine AWP.block ?_
  refine AWP.region ?_
  iterate 3 refine jst hσ rfl rfl rfl rfl rfl ?_
  first | refine jin hσ rfl rfl rfl rfl rfl rfl rfl rfl rfl rfl rfl ?_ | refine jix hσ rfl rfl rfl rfl rfl rfl rfl rfl rfl rfl rfl ?_ | refine jvf hσ rfl rfl rfl rfl rfl ?_
  refine jf [15, 12, 9, 0, 3, 4] rfl ?_
  refine AOps.rows hσ (B0 := 17000) rfl rfl rfl rfl (c143o (t := ts.getD i default) h1 h2) (VAs.self rfl) rfl rfl rfl rfl rfl rfl ?_
  refine jnm ?_
  refine jf [16, 12, 9, 0, 3, 4] rfl ?_
  refine AOps.heap (HS.litAbs (ds := Tm.cells (ts.getD i default)) hσ rfl rfl rfl rfl rfl rfl rfl rfl rfl rfl (.d rfl (.rs rfl (List.length_map _).symm .nil)) rfl rfl rfl) rfl ?_
  refine jnm ?_
  refine jnm ?_
  refine jf [17, 12, 9, 0, 3, 4] rfl ?_
  refine AOps.heap (HS.appMove (zs := (ts.take (i + 1)).map Tm.cells) (n := i + 1) hσ rfl rfl rfl rfl rfl rfl rfl rfl rfl rfl rfl rfl rfl rfl rfl rfl (.row rfl (by simp; omega)) rfl rfl (by decide) rfl (by simp; omega) (by simp; omega) (by rw [List.take_succ_eq_append_getElem (by omega), List.map_append, getD_lt (by omega)]; rfl) (by simp; omega)) rfl ?_
  refine jnm ?_
  refine jnm ?_
  refine jst hσ rfl rfl rfl rfl rfl ?_
  refine jf [3, 9, 0, 4] rfl ?_
  refine jn ?_
  refine AWP.region ?_
  refine jst hσ rfl rfl rfl rfl rfl ?_
  first | refine jfi hσ rfl rfl rfl rfl rfl ?_ | refine jvf hσ rfl rfl rfl rfl rfl ?_
  refine jst hσ rfl rfl rfl rfl rfl ?_
  refine jf [4, 3, 9, 0] rfl ?_
  refine jn ?_
  refine ⟨i + 1, ((Ent.sel [18] (e' := [(0, _), (3, _), (4, _)]) rfl rfl ⟨rfl, rfl, rfl, trivial⟩ rfl).trans (Ent.sub2 18 900 rfl rfl)), by omega, by omega⟩
 ·
  try simp only [jcs] at hc9
  refine AWP.exit ?_
  refine jsr ?_
  iterate 2 refine jst hσ rfl rfl rfl rfl rfl ?_
  refine jn ?_
  refine AWP.ret ?_
  obtain rfl : i = ts.length := by omega
  rw [List.take_length]
  refine ⟨.inl rfl, _, Ent.refl, _, rfl, [900], by decide, rfl, rfl, rfl⟩
end Go.Al
namespace Go.Al
open Go.Proofs
set_option linter.unusedVariables false
set_option linter.unusedSimpArgs false
set_option maxRecDepth 10000
/-! What the program's folding comes to, and that it is the reference's. -/
abbrev cntT (d : List Bool) (n : Nat) : Nat := (d.take n).count true
def lessI (d : List Bool) (x : In) : In := if jmpB x = true then ⟨x.op, x.a - cntT d x.a.toNat⟩ else x
def lessP (d : List Bool) (p : Pt) : Pt := ⟨p.k - cntT d p.k.toNat, p.fs⟩
def keepL : List Bool → List In → List In
  | b :: d, x :: c => if b = true then keepL d c else x :: keepL d c
  | _, _ => []
def withoutR (d : List Bool) (a : An) : An := ⟨a.pre, a.post, (keepL d a.code).map (lessI d), a.pts.map (lessP d)⟩
/-- The states of the loop that lays the new instructions. -/
def cI (c by' : List In) (k i : Nat) : List In := c.take k ++ (by'.take i ++ c.drop (k + min i by'.length))
def dI (N k m i : Nat) : List Bool := List.replicate (k + m) false ++ (List.replicate (i - m) true ++ List.replicate (N - k - max i m) false)
/-- The reference's loop: a state that is folded on. -/
structure Fo (a out : An) (k : Nat) : Prop where
  le : k ≤ out.code.length
  eq : foldR out = foldR a
  ok : AOk out
  no : ∀ j, j < k → (ruleA out j).1 = 0
theorem Fo.zero {a : An} (h : AOk a) : Fo a a 0 := ⟨Nat.zero_le _, rfl, h, fun j hj => absurd hj (Nat.not_lt_zero j)⟩
/-- The program's loop. -/
structure Gn (a out : An) : Prop where
  eq : foldR out = foldR a
  ok : AOk out
theorem Gn.zero {a : An} (h : AOk a) : Gn a a := ⟨rfl, h⟩
end Go.Al
namespace Go.Al
open Go.Proofs
set_option linter.unusedVariables false
set_option linter.unusedSimpArgs false
set_option maxRecDepth 10000
set_option maxHeartbeats 4000000
end Go.Al
namespace Go.Al
open Go.Proofs
set_option linter.unusedVariables false
set_option linter.unusedSimpArgs false
set_option maxRecDepth 10000
set_option maxHeartbeats 4000000
abbrev anBs (a : An) : List B := [trow a.pre, trow a.post, irow a.code, prow a.pts]
end Go.Al
namespace Go.Al
open Go.Proofs
set_option linter.unusedVariables false
set_option linter.unusedSimpArgs false
set_option maxRecDepth 10000
set_option maxHeartbeats 4000000
theorem c194 {L : Nat} (h1 : 4096 ≤ L) (h2 : L ≤ 1073741824) {x : Int} : MC Tryz.prog L 121 [eI x] [] (Plain (eB (inB 0 79 x))) := by
 refine MC.alone ?_ rfl
 have hσ := SGok (nt := 5) h1 (Nat.le_trans h2 (by decide))
 refine MC.body hσ Tryz.func121 (by kernel_rfl) rfl rfl (Nat.le_of_ble_eq_true rfl) (fun hF => ?_)
 refine jsr ?_
 refine jst hσ rfl rfl rfl rfl rfl ?_
 refine jns ?_
 refine jst hσ rfl rfl rfl rfl rfl ?_
 refine AOps.lone hσ rfl rfl rfl rfl (c111 h1 h2) (VAs.self rfl) rfl rfl rfl rfl rfl (B0 := 5000) rfl ?_
 refine jst hσ rfl rfl rfl rfl rfl ?_
 refine jn ?_
 refine AWP.ret ?_
 refine ⟨.inl rfl, _, Ent.refl, _, rfl, ?_⟩
 first | rfl | skip
theorem c168 {L : Nat} (h1 : 4096 ≤ L) (h2 : L ≤ 1073741824) {x : In} : MC Tryz.prog L 103 [.agg (x.cells.map .d)] [] (Plain (eB (instrB x))) := by
 refine MC.alone ?_ rfl
 have hσ := SGok (nt := 37) h1 (Nat.le_trans h2 (by decide))
 refine MC.body hσ Tryz.func103 (by kernel_rfl) rfl rfl (Nat.le_of_ble_eq_true rfl) (fun hF => ?_)
 refine jsr ?_
 refine AOps.heap (HS.box hσ rfl rfl rfl rfl rfl rfl rfl) rfl ?_
 refine jst hσ rfl rfl rfl rfl rfl ?_
 refine jn ?_
 refine AWP.seq ?_
 refine jsr ?_
 iterate 2 refine jst hσ rfl rfl rfl rfl rfl ?_
 refine jn ?_
 refine AWP.block ?_
 refine AWP.seq ?_
 refine jsr ?_
 iterate 2 refine jst hσ rfl rfl rfl rfl rfl ?_
 refine jn ?_
 refine AWP.cond hσ rfl rfl (fun hc5 => ?_) (fun hc5 => ?_)
 ·
  try simp only [jcs] at hc5
  refine AWP.skip ?_
  refine AWP.cond hσ rfl rfl (fun hc5 => ?_) (fun hc5 => ?_)
  ·
   try simp only [jcs] at hc5
   refine jsr ?_
   iterate 2 refine jst hσ rfl rfl rfl rfl rfl ?_
   refine jf [9, 6, 4, 3, 2, 1, 0] rfl ?_
   refine AOps.lone hσ rfl rfl rfl rfl (c176 h1 h2) (VAs.self rfl) rfl rfl rfl rfl rfl (B0 := 11000) rfl ?_
   refine jst hσ rfl rfl rfl rfl rfl ?_
   refine jf [2, 6, 4, 3, 1, 0] rfl ?_
   refine jn ?_
   refine AWP.ret ?_
   refine ⟨.inl rfl, _, Ent.refl, _, rfl, ?_⟩
   unfold instrB inB; simp_all
  ·
   try simp only [jcs] at hc5
   contradiction
 ·
  try simp only [jcs] at hc5
  refine AWP.region ?_
  iterate 2 refine jst hσ rfl rfl rfl rfl rfl ?_
  refine jn ?_
  refine AWP.cond hσ rfl rfl (fun hc5 => ?_) (fun hc5 => ?_)
  ·
   try simp only [jcs] at hc5
   refine jsr ?_
   iterate 2 refine jst hσ rfl rfl rfl rfl rfl ?_
   refine jf [9, 7, 6, 4, 3, 2, 1, 0] rfl ?_
   refine AOps.lone hσ rfl rfl rfl rfl (c176 h1 h2) (VAs.self rfl) rfl rfl rfl rfl rfl (B0 := 11000) rfl ?_
   refine jst hσ rfl rfl rfl rfl rfl ?_
   refine jf [2, 7, 6, 4, 3, 1, 0] rfl ?_
   refine jn ?_
   refine AWP.ret ?_
   refine ⟨.inl rfl, _, Ent.refl, _, rfl, ?_⟩
   unfold instrB inB; simp_all
  ·
   try simp only [jcs] at hc5
   refine AWP.seq ?_
   refine jsr ?_
   iterate 2 refine jst hσ rfl rfl rfl rfl rfl ?_
   refine jf [11, 7, 6, 4, 3, 2, 1, 0] rfl ?_
   refine jn ?_
   refine AWP.cond hσ rfl rfl (fun hc11 => ?_) (fun hc11 => ?_)
   ·
    try simp only [jcs] at hc11
    refine AWP.skip ?_
    refine AWP.cond hσ rfl rfl (fun hc11 => ?_) (fun hc11 => ?_)
    ·
     try simp only [jcs] at hc11
     refine jsr ?_
     iterate 2 refine jst hσ rfl rfl rfl rfl rfl ?_
     refine jf [15, 7, 6, 4, 3, 2, 1, 0] rfl ?_
     refine AOps.lone hσ rfl rfl rfl rfl (c193 h1 h2) (VAs.self rfl) rfl rfl rfl rfl rfl (B0 := 17000) rfl ?_
     refine jst hσ rfl rfl rfl rfl rfl ?_
     refine jf [2, 7, 6, 4, 3, 1, 0] rfl ?_
     refine jn ?_
     refine AWP.ret ?_
     refine ⟨.inl rfl, _, Ent.refl, _, rfl, ?_⟩
     unfold instrB inB; simp_all
    ·
     try simp only [jcs] at hc11
     contradiction
   ·
    try simp only [jcs] at hc11
    refine AWP.region ?_
    iterate 2 refine jst hσ rfl rfl rfl rfl rfl ?_
    refine jn ?_
    refine AWP.cond hσ rfl rfl (fun hc11 => ?_) (fun hc11 => ?_)
    ·
     try simp only [jcs] at hc11
     refine jsr ?_
     iterate 2 refine jst hσ rfl rfl rfl rfl rfl ?_
     refine jf [15, 13, 7, 6, 4, 3, 2, 1, 0] rfl ?_
     refine AOps.lone hσ rfl rfl rfl rfl (c193 h1 h2) (VAs.self rfl) rfl rfl rfl rfl rfl (B0 := 17000) rfl ?_
     refine jst hσ rfl rfl rfl rfl rfl ?_
     refine jf [2, 13, 7, 6, 4, 3, 1, 0] rfl ?_
     refine jn ?_
     refine AWP.ret ?_
     refine ⟨.inl rfl, _, Ent.refl, _, rfl, ?_⟩
     unfold instrB inB; simp_all
    ·
     try simp only [jcs] at hc11
     refine AWP.seq ?_
     refine jsr ?_
     iterate 2 refine jst hσ rfl rfl rfl rfl rfl ?_
     refine jf [17, 13, 7, 6, 4, 3, 2, 1, 0] rfl ?_
     refine jn ?_
     refine AWP.cond hσ rfl rfl (fun hc17 => ?_) (fun hc17 => ?_)
     ·
      try simp only [jcs] at hc17
      refine AWP.skip ?_
      refine AWP.cond hσ rfl rfl (fun hc17 => ?_) (fun hc17 => ?_)
      ·
       try simp only [jcs] at hc17
       refine jsr ?_
       iterate 2 refine jst hσ rfl rfl rfl rfl rfl ?_
       refine jf [21, 13, 7, 6, 4, 3, 2, 1, 0] rfl ?_
       refine AOps.lone hσ rfl rfl rfl rfl (c194 h1 h2) (VAs.self rfl) rfl rfl rfl rfl rfl (B0 := 23000) rfl ?_
       refine jst hσ rfl rfl rfl rfl rfl ?_
       refine jf [2, 13, 7, 6, 4, 3, 1, 0] rfl ?_
       refine jn ?_
       refine AWP.ret ?_
       refine ⟨.inl rfl, _, Ent.refl, _, rfl, ?_⟩
       unfold instrB inB; simp_all
      ·
       try simp only [jcs] at hc17
       contradiction
     ·
      try simp only [jcs] at hc17
      refine AWP.region ?_
      iterate 2 refine jst hσ rfl rfl rfl rfl rfl ?_
      refine jn ?_
      refine AWP.cond hσ rfl rfl (fun hc17 => ?_) (fun hc17 => ?_)
      ·
       try simp only [jcs] at hc17
       refine jsr ?_
       iterate 2 refine jst hσ rfl rfl rfl rfl rfl ?_
       refine jf [21, 19, 13, 7, 6, 4, 3, 2, 1, 0] rfl ?_
       refine AOps.lone hσ rfl rfl rfl rfl (c194 h1 h2) (VAs.self rfl) rfl rfl rfl rfl rfl (B0 := 23000) rfl ?_
       refine jst hσ rfl rfl rfl rfl rfl ?_
       refine jf [2, 19, 13, 7, 6, 4, 3, 1, 0] rfl ?_
       refine jn ?_
       refine AWP.ret ?_
       refine ⟨.inl rfl, _, Ent.refl, _, rfl, ?_⟩
       unfold instrB inB; simp_all
      ·
       try simp only [jcs] at hc17
       refine jsr ?_
       iterate 2 refine jst hσ rfl rfl rfl rfl rfl ?_
       refine jf [23, 19, 13, 7, 6, 4, 3, 2, 1, 0] rfl ?_
       refine jn ?_
       refine AWP.cond hσ rfl rfl (fun hc23 => ?_) (fun hc23 => ?_)
       ·
        try simp only [jcs] at hc23
        refine jsr ?_
        iterate 2 refine jst hσ rfl rfl rfl rfl rfl ?_
        refine jf [26, 19, 13, 7, 6, 4, 3, 2, 1, 0] rfl ?_
        refine AOps.lone hσ rfl rfl rfl rfl (c195 h1 h2) (VAs.self rfl) rfl rfl rfl rfl rfl (B0 := 28000) rfl ?_
        refine jst hσ rfl rfl rfl rfl rfl ?_
        refine jf [2, 19, 13, 7, 6, 4, 3, 1, 0] rfl ?_
        refine jn ?_
        refine AWP.ret ?_
        refine ⟨.inl rfl, _, Ent.refl, _, rfl, ?_⟩
        unfold instrB inB; simp_all
       ·
        try simp only [jcs] at hc23
        refine AWP.seq ?_
        refine jsr ?_
        iterate 2 refine jst hσ rfl rfl rfl rfl rfl ?_
        refine jf [28, 19, 13, 7, 6, 4, 3, 2, 1, 0] rfl ?_
        refine jn ?_
        refine AWP.cond hσ rfl rfl (fun hc28 => ?_) (fun hc28 => ?_)
        ·
         try simp only [jcs] at hc28
         refine AWP.skip ?_
         refine AWP.cond hσ rfl rfl (fun hc28 => ?_) (fun hc28 => ?_)
         ·
          try simp only [jcs] at hc28
          refine jsr ?_
          iterate 4 refine jst hσ rfl rfl rfl rfl rfl ?_
          refine jf [2, 28, 19, 13, 7, 6, 4, 3, 1, 0] rfl ?_
          refine jn ?_
          refine AWP.ret ?_
          refine ⟨.inl rfl, _, Ent.refl, _, rfl, ?_⟩
          unfold instrB inB; simp_all
         ·
          try simp only [jcs] at hc28
          contradiction
        ·
         try simp only [jcs] at hc28
         refine jsr ?_
         iterate 2 refine jst hσ rfl rfl rfl rfl rfl ?_
         refine jn ?_
         refine AWP.cond hσ rfl rfl (fun hc28 => ?_) (fun hc28 => ?_)
         ·
          try simp only [jcs] at hc28
          refine AWP.skip ?_
          refine AWP.cond hσ rfl rfl (fun hc28 => ?_) (fun hc28 => ?_)
          ·
           try simp only [jcs] at hc28
           refine jsr ?_
           iterate 4 refine jst hσ rfl rfl rfl rfl rfl ?_
           refine jf [2, 28, 30, 19, 13, 7, 6, 4, 3, 1, 0] rfl ?_
           refine jn ?_
           refine AWP.ret ?_
           refine ⟨.inl rfl, _, Ent.refl, _, rfl, ?_⟩
           unfold instrB inB; simp_all
          ·
           try simp only [jcs] at hc28
           contradiction
         ·
          try simp only [jcs] at hc28
          refine jsr ?_
          iterate 2 refine jst hσ rfl rfl rfl rfl rfl ?_
          refine jn ?_
          refine AWP.cond hσ rfl rfl (fun hc28 => ?_) (fun hc28 => ?_)
          ·
           try simp only [jcs] at hc28
           refine AWP.skip ?_
           refine AWP.cond hσ rfl rfl (fun hc28 => ?_) (fun hc28 => ?_)
           ·
            try simp only [jcs] at hc28
            refine jsr ?_
            iterate 4 refine jst hσ rfl rfl rfl rfl rfl ?_
            refine jf [2, 28, 31, 30, 19, 13, 7, 6, 4, 3, 1, 0] rfl ?_
            refine jn ?_
            refine AWP.ret ?_
            refine ⟨.inl rfl, _, Ent.refl, _, rfl, ?_⟩
            unfold instrB inB; simp_all
           ·
            try simp only [jcs] at hc28
            contradiction
          ·
           try simp only [jcs] at hc28
           refine jsr ?_
           iterate 2 refine jst hσ rfl rfl rfl rfl rfl ?_
           refine jn ?_
           refine AWP.cond hσ rfl rfl (fun hc28 => ?_) (fun hc28 => ?_)
           ·
            try simp only [jcs] at hc28
            refine AWP.skip ?_
            refine AWP.cond hσ rfl rfl (fun hc28 => ?_) (fun hc28 => ?_)
            ·
             try simp only [jcs] at hc28
             refine jsr ?_
             iterate 4 refine jst hσ rfl rfl rfl rfl rfl ?_
             refine jf [2, 32, 31, 30, 19, 13, 7, 6, 4, 3, 1, 0] rfl ?_
             refine jn ?_
             refine AWP.ret ?_
             refine ⟨.inl rfl, _, Ent.refl, _, rfl, ?_⟩
             unfold instrB inB; simp_all
            ·
             try simp only [jcs] at hc28
             contradiction
           ·
            try simp only [jcs] at hc28
            refine AWP.region ?_
            iterate 2 refine jst hσ rfl rfl rfl rfl rfl ?_
            refine jn ?_
            refine AWP.cond hσ rfl rfl (fun hc28 => ?_) (fun hc28 => ?_)
            ·
             try simp only [jcs] at hc28
             refine jsr ?_
             iterate 4 refine jst hσ rfl rfl rfl rfl rfl ?_
             refine jf [2, 33, 32, 31, 30, 19, 13, 7, 6, 4, 3, 1, 0] rfl ?_
             refine jn ?_
             refine AWP.ret ?_
             refine ⟨.inl rfl, _, Ent.refl, _, rfl, ?_⟩
             unfold instrB inB; simp_all
            ·
             try simp only [jcs] at hc28
             refine AWP.skip ?_
             refine jsr ?_
             refine jst hσ rfl rfl rfl rfl rfl ?_
             refine jn ?_
             refine AWP.ret ?_
             refine ⟨.inl rfl, _, Ent.refl, _, rfl, ?_⟩
             unfold instrB inB; simp_all
theorem c167 {L : Nat} (h1 : 4096 ≤ L) (h2 : L ≤ 1073741824) {x : In} : MC Tryz.prog L 102 [.agg (x.cells.map .d)] [] (Plain (eB (!instrB x))) := by
 refine MC.alone ?_ rfl
 have hσ := SGok (nt := 6) h1 (Nat.le_trans h2 (by decide))
 refine MC.body hσ Tryz.func102 (by kernel_rfl) rfl rfl (Nat.le_of_ble_eq_true rfl) (fun hF => ?_)
 refine jsr ?_
 refine AOps.heap (HS.box hσ rfl rfl rfl rfl rfl rfl rfl) rfl ?_
 refine jst hσ rfl rfl rfl rfl rfl ?_
 refine jns ?_
 refine jst hσ rfl rfl rfl rfl rfl ?_
 refine jf [3, 2, 0] rfl ?_
 refine AOps.lone hσ rfl rfl rfl rfl (c168 h1 h2) (VAs.self rfl) rfl rfl rfl rfl rfl (B0 := 5000) rfl ?_
 iterate 2 refine jst hσ rfl rfl rfl rfl rfl ?_
 refine jf [2, 0] rfl ?_
 refine jn ?_
 refine AWP.ret ?_
 refine ⟨.inl rfl, _, Ent.refl, _, rfl, ?_⟩
 first | rfl | skip
def ixF {α : Type} (p : α → Bool) (l : List α) : Int := if l.any p = true then (l.findIdx p : Nat) else -1
theorem ixF_no {α : Type} {p : α → Bool} {l : List α} (h : ∀ j (hj : j < l.length), p l[j] = false) : ixF p l = -1 := by rw [ixF, if_neg (by rw [any_no h]; decide)]
theorem ixF_at {α : Type} {p : α → Bool} {l : List α} {i : Nat} (hi : i < l.length) (h : ∀ j (hj : j < l.length), j < i → p l[j] = false) (hn : p l[i] = true) : ixF p l = i := by
  rw [ixF, if_pos (any_yes i hi hn)]
  exact congrArg Nat.cast ((List.findIdx_eq hi).2 ⟨hn, fun j hj => by simp [h j (by omega) hj]⟩)
theorem ixF_nn {α : Type} {p : α → Bool} {l : List α} : decide (ixF p l ≥ 0) = l.any p := by
  unfold ixF
  cases h : l.any p <;> simp
theorem c174v {L : Nat} (h1 : 4096 ≤ L) (h2 : L ≤ 1073741824) {c : List In} : MC Tryz.prog L 118 [ains c, .c (.fn 102 [])] [] (Plain (eI (ixF (fun x : In => !instrB x) c))) := by
 refine MC.alone ?_ rfl
 have hσ := SGok (nt := 19) h1 (Nat.le_trans h2 (by decide))
 refine MC.body hσ Tryz.func118 (by kernel_rfl) rfl rfl (Nat.le_of_ble_eq_true rfl) (fun hF => ?_)
 have hl : c.length ≤ L := by simpa [As.fact, A.fact, M.fact, D.fact, Ds.fact] using hF.1.1
 refine jsr ?_
 refine jst hσ rfl rfl rfl rfl rfl ?_
 refine jn ?_
 refine AWP.seq ?_
 refine jsr ?_
 refine jst hσ rfl rfl rfl rfl rfl ?_
 first | refine jle hσ rfl rfl rfl rfl rfl rfl rfl rfl rfl rfl rfl ?_ | refine jst hσ rfl rfl rfl rfl rfl ?_ | refine jvf hσ rfl rfl rfl rfl rfl ?_
 refine jst hσ rfl rfl rfl rfl rfl ?_
 refine jn ?_
 refine AWP.block ?_
 refine AWP.loopP (X := Nat) (fun i => ⟨[(0, ains c), (1, .c (.fn 102 [])), (7, eI c.length), (8, eI i)], []⟩) (fun i => i ≤ c.length ∧ ∀ j (h : j < c.length), j < i → (fun x : In => !instrB x) c[j] = false) (fun i => c.length - i) 0 (Ent.env ⟨rfl, rfl, rfl, rfl, trivial⟩) ?_ (fun i hi => ?_)
 ·
  exact ⟨Nat.zero_le _, fun j h hj => absurd hj (Nat.not_lt_zero j)⟩
 refine jsr ?_
 refine jst hσ rfl rfl rfl rfl rfl ?_
 refine jn ?_
 refine AWP.seq ?_
 refine AWP.cond hσ rfl rfl (fun hc9 => ?_) (fun hc9 => ?_)
 ·
  skip
  refine AWP.skip ?_
  refine AWP.seq ?_
  refine AWP.block ?_
  refine jsr ?_
  have hil : i < c.length := by have := of_decide_eq_true hc9; omega
  iterate 2 refine jst hσ rfl rfl rfl rfl rfl ?_
  refine jns ?_
  iterate 3 refine jst hσ rfl rfl rfl rfl rfl ?_
  first | refine jin hσ rfl rfl rfl rfl rfl rfl rfl rfl rfl rfl rfl ?_ | refine jix hσ rfl rfl rfl rfl rfl rfl rfl rfl rfl rfl rfl ?_ | refine jvf hσ rfl rfl rfl rfl rfl ?_
  refine jst hσ rfl rfl rfl rfl rfl ?_
  refine AOps.reset [(15, _), (11, _), (5, _), (10, _), (9, _), (0, _), (1, _), (7, _), (8, _)] [] ⟨rfl, rfl, rfl, rfl, rfl, rfl, rfl, rfl, rfl, trivial⟩ rfl ?_
  refine AOps.lone hσ rfl rfl rfl rfl (c167 (x := c.getD i default) h1 h2) (VAs.self rfl) rfl rfl rfl rfl rfl (B0 := 17000) rfl ?_
  refine jf [16, 5, 10, 9, 0, 1, 7, 8] rfl ?_
  refine jn ?_
  refine AWP.cond hσ rfl rfl (fun hc16 => ?_) (fun hc16 => ?_)
  ·
   skip
   refine jsr ?_
   iterate 2 refine jst hσ rfl rfl rfl rfl rfl ?_
   refine jn ?_
   refine AWP.ret ?_
   refine ⟨.inl rfl, _, Ent.refl, _, rfl, ?_⟩
   rw [getD_lt hil] at hc16
   rw [ixF_at hil hi.2 hc16]
  ·
   skip
   refine AWP.skip ?_
   refine AWP.region ?_
   first | refine jfi hσ rfl rfl rfl rfl rfl ?_ | refine jvf hσ rfl rfl rfl rfl rfl ?_
   refine jst hσ rfl rfl rfl rfl rfl ?_
   refine jn ?_
   refine ⟨i + 1, Ent.env ⟨rfl, rfl, rfl, rfl, trivial⟩, ⟨by omega, fun j h hj => ?_⟩, by omega⟩
   by_cases e : j = i
   ·
    subst e; rw [getD_lt h] at hc16; exact hc16
   ·
    exact hi.2 j h (by omega)
 ·
  skip
  refine AWP.exit ?_
  refine jsr ?_
  refine jst hσ rfl rfl rfl rfl rfl ?_
  refine jn ?_
  refine AWP.ret ?_
  refine ⟨.inl rfl, _, Ent.refl, _, rfl, ?_⟩
  have h9 := of_decide_eq_false hc9
  rw [ixF_no (fun j hj => hi.2 j hj (by omega))]
theorem c128v {L : Nat} (h1 : 4096 ≤ L) (h2 : L ≤ 1073741824) {c : List In} : MC Tryz.prog L 101 [ains c, .c (.fn 102 [])] [] (Plain (eB (c.any (fun x : In => !instrB x)))) := by
 refine MC.alone ?_ rfl
 have hσ := SGok (nt := 9) h1 (Nat.le_trans h2 (by decide))
 refine MC.body hσ Tryz.func101 (by kernel_rfl) rfl rfl (Nat.le_of_ble_eq_true rfl) (fun hF => ?_)
 refine jsr ?_
 refine jst hσ rfl rfl rfl rfl rfl ?_
 refine jns ?_
 iterate 2 refine jst hσ rfl rfl rfl rfl rfl ?_
 refine AOps.lone hσ rfl rfl rfl rfl (c174v (c := c) h1 h2) (.cons (.c .d) (.cons (.c (.fn .nil)) .nil)) rfl rfl rfl rfl rfl (B0 := 8000) rfl ?_
 iterate 2 refine jst hσ rfl rfl rfl rfl rfl ?_
 refine jn ?_
 refine AWP.ret ?_
 refine ⟨.inl rfl, _, Ent.refl, _, rfl, ?_⟩
 exact congrArg eB ixF_nn
theorem c124 {L : Nat} (h1 : 4096 ≤ L) (h2 : L ≤ 1073741824) {c : List In} : MC Tryz.prog L 75 [ains c] [] (Plain (eB (codeB c))) := by
 refine MC.alone ?_ rfl
 have hσ := SGok (nt := 12) h1 (Nat.le_trans h2 (by decide))
 refine MC.body hσ Tryz.func75 (by kernel_rfl) rfl rfl (Nat.le_of_ble_eq_true rfl) (fun hF => ?_)
 have hl : c.length ≤ L := by simpa [As.fact, A.fact, M.fact, D.fact, Ds.fact] using hF.1.1
 refine jsr ?_
 refine jst hσ rfl rfl rfl rfl rfl ?_
 refine jns ?_
 refine jst hσ rfl rfl rfl rfl rfl ?_
 first | refine jle hσ rfl rfl rfl rfl rfl rfl rfl rfl rfl rfl rfl ?_ | refine jst hσ rfl rfl rfl rfl rfl ?_ | refine jvf hσ rfl rfl rfl rfl rfl ?_
 refine AOps.lone hσ rfl rfl rfl rfl (c147 h1 h2) (VAs.self rfl) rfl rfl rfl rfl rfl (B0 := 6000) rfl ?_
 refine AOps.lone hσ rfl rfl rfl rfl (c111 h1 h2) (VAs.self rfl) rfl rfl rfl rfl rfl (B0 := 7000) rfl ?_
 refine jst hσ rfl rfl rfl rfl rfl ?_
 refine AOps.gr 3 rfl rfl rfl (fun hx => AN.step hx rfl rfl rfl (Val.of hσ rfl rfl) rfl rfl ( AN.lone hσ hx rfl rfl rfl rfl (c128v (c := c) h1 h2) (.cons (.c .d) (.cons (.c (.fn .nil)) .nil)) rfl rfl rfl rfl rfl rfl rfl (B0 := 10000) rfl ( AN.step hx rfl rfl rfl (Val.of hσ rfl rfl) rfl rfl ( AN.nil)))) rfl rfl ?_
 first | refine AOps.step (Val.pickT hσ rfl rfl rfl rfl rfl) rfl rfl rfl ?_ | refine AOps.step (Val.pickF hσ rfl rfl rfl rfl rfl) rfl rfl rfl ?_ | refine AOps.step (Val.pickB hσ rfl rfl rfl rfl rfl) rfl rfl rfl ?_
 refine jst hσ rfl rfl rfl rfl rfl ?_
 refine jn ?_
 refine AWP.ret ?_
 refine ⟨.inl rfl, _, Ent.refl, _, rfl, ?_⟩
 rw [Bool.cond_false_right, show codeB c = _ from Bool.and_comm _ _, List.all_eq_not_any_not]
theorem pt_notI {a : An} {i : Nat} : (bif (bif !terms (a.pts.getD i default).fs 6 then true else !(inB 0 ((a.code.length : Int) - 1) (a.pts.getD i default).k)) then true else (bif decide ((0 : Int) < i) then decide ((a.pts.getD i default).k ≤ (a.pts.getD (i - 1) default).k) else false)) = !ptB a.code.length a.pts i := by
  unfold ptB inB
  rw [show decide ((0 : Int) < i) = decide (0 < i) from decide_eq_decide.2 (by omega)]
  cases decide (0 ≤ (a.pts.getD i default).k) <;> cases decide ((a.pts.getD i default).k ≤ (a.code.length : Int) - 1) <;> cases terms (a.pts.getD i default).fs 6 <;> cases decide (0 < i) <;> cases decide ((a.pts.getD i default).k ≤ (a.pts.getD (i - 1) default).k) <;> rfl
theorem c71 {L : Nat} (h1 : 4096 ≤ L) (h2 : L ≤ 1073741824) {a : An} : MC Tryz.prog L 44 [aAn a] [] (Plain (eB (annB a))) := by
 refine MC.alone ?_ rfl
 have hσ := SGok (nt := 65) h1 (Nat.le_trans h2 (by decide))
 refine MC.body hσ Tryz.func44 (by kernel_rfl) rfl rfl (Nat.le_of_ble_eq_true rfl) (fun hF => ?_)
 have hl : a.code.length ≤ L := by simpa [As.fact, A.fact, M.fact, Ms.fact, D.fact, Ds.fact] using hF.1.2.2.1.1
 have hlp : a.pts.length ≤ L := by simpa [As.fact, A.fact, M.fact, Ms.fact, D.fact, Ds.fact] using hF.1.2.2.2.1.1
 refine jsr ?_
 refine AOps.heap (HS.box hσ rfl rfl rfl rfl rfl rfl rfl) rfl ?_
 refine jnm ?_
 refine AOps.to (Ent.freeze 1 (e' := [(1, _), (0, _)]) rfl (.cons rfl (.c (.box (cs := a.data) rfl (VMs.self rfl))) (.cons rfl (.keep rfl) .nil)) (.skip .nil)) ?_
 refine jnm ?_
 refine jst hσ rfl rfl rfl rfl rfl ?_
 refine jn ?_
 refine AWP.seq ?_
 refine jsr ?_
 iterate 2 refine jst hσ rfl rfl rfl rfl rfl ?_
 refine jf [6, 2, 1, 0] rfl ?_
 refine AOps.lone hσ rfl rfl rfl rfl (c124 h1 h2) (VAs.self rfl) rfl rfl rfl rfl rfl (B0 := 8000) rfl ?_
 iterate 2 refine jst hσ rfl rfl rfl rfl rfl ?_
 refine jf [9, 2, 1, 0] rfl ?_
 refine AOps.gr 4 rfl rfl rfl (fun hx => AN.step hx rfl rfl rfl (Val.of hσ rfl rfl) rfl rfl ( AN.step hx rfl rfl rfl (Val.of hσ rfl rfl) rfl rfl ( AN.lone hσ hx rfl rfl rfl rfl (c125 h1 h2) (VAs.self rfl) rfl rfl rfl rfl rfl rfl rfl (B0 := 13000) rfl ( AN.step hx rfl rfl rfl (Val.of hσ rfl rfl) rfl rfl ( AN.nil))))) rfl rfl ?_
 first | refine AOps.step (Val.pickF hσ rfl rfl rfl rfl rfl) rfl rfl rfl ?_ | refine AOps.step (Val.pickB hσ rfl rfl rfl rfl rfl) rfl rfl rfl ?_ | refine AOps.step (Val.pickT hσ rfl rfl rfl rfl rfl) rfl rfl rfl ?_
 refine jst hσ rfl rfl rfl rfl rfl ?_
 refine jf [15, 2, 1, 0] rfl ?_
 refine AOps.gr 4 rfl rfl rfl (fun hx => AN.step hx rfl rfl rfl (Val.of hσ rfl rfl) rfl rfl ( AN.step hx rfl rfl rfl (Val.of hσ rfl rfl) rfl rfl ( AN.lone hσ hx rfl rfl rfl rfl (c125 h1 h2) (VAs.self rfl) rfl rfl rfl rfl rfl rfl rfl (B0 := 19000) rfl ( AN.step hx rfl rfl rfl (Val.of hσ rfl rfl) rfl rfl ( AN.nil))))) rfl rfl ?_
 first | refine AOps.step (Val.pickF hσ rfl rfl rfl rfl rfl) rfl rfl rfl ?_ | refine AOps.step (Val.pickB hσ rfl rfl rfl rfl rfl) rfl rfl rfl ?_ | refine AOps.step (Val.pickT hσ rfl rfl rfl rfl rfl) rfl rfl rfl ?_
 refine jst hσ rfl rfl rfl rfl rfl ?_
 refine jf [21, 2, 1, 0] rfl ?_
 refine AOps.gr 4 rfl rfl rfl (fun hx => AN.step hx rfl rfl rfl (Val.of hσ rfl rfl) rfl rfl ( AN.step hx rfl rfl rfl (Val.of hσ rfl rfl) rfl rfl ( AN.step hx rfl rfl rfl (Val.lenD hσ rfl rfl rfl rfl rfl rfl rfl rfl) rfl rfl ( AN.step hx rfl rfl rfl (Val.of hσ rfl rfl) rfl rfl ( AN.nil))))) rfl rfl ?_
 first | refine AOps.step (Val.pickF hσ rfl rfl rfl rfl rfl) rfl rfl rfl ?_ | refine AOps.step (Val.pickB hσ rfl rfl rfl rfl rfl) rfl rfl rfl ?_ | refine AOps.step (Val.pickT hσ rfl rfl rfl rfl rfl) rfl rfl rfl ?_
 refine jf [26, 2, 1, 0] rfl ?_
 refine jn ?_
 refine AWP.cond hσ rfl rfl (fun hc26 => ?_) (fun hc26 => ?_)
 ·
  skip
  refine jsr ?_
  refine jst hσ rfl rfl rfl rfl rfl ?_
  refine jn ?_
  refine AWP.ret ?_
  refine ⟨.inl rfl, _, Ent.refl, _, rfl, ?_⟩
  rw [ann_no hc26]
 ·
  skip
  refine AWP.skip ?_
  refine AWP.seq ?_
  refine jsr ?_
  iterate 2 refine jst hσ rfl rfl rfl rfl rfl ?_
  first | refine jle hσ rfl rfl rfl rfl rfl rfl rfl rfl rfl rfl rfl ?_ | refine jst hσ rfl rfl rfl rfl rfl ?_ | refine jvf hσ rfl rfl rfl rfl rfl ?_
  refine jst hσ rfl rfl rfl rfl rfl ?_
  refine jf [30, 29, 28, 2, 1, 0] rfl ?_
  refine jn ?_
  refine AWP.block ?_
  refine AWP.loopP (X := Nat) (fun i => ⟨[(1, ptr a.data), (28, apts a.pts), (29, eI a.pts.length), (30, eI i)], []⟩) (fun i => i ≤ a.pts.length ∧ ∀ j, j < i → ptB a.code.length a.pts j = true) (fun i => a.pts.length - i) 0 (Ent.env ⟨rfl, rfl, rfl, rfl, trivial⟩) ?_ (fun i hi => ?_)
  ·
   exact ⟨Nat.zero_le _, fun j hj => absurd hj (Nat.not_lt_zero j)⟩
  refine jsr ?_
  refine jst hσ rfl rfl rfl rfl rfl ?_
  refine jn ?_
  refine AWP.seq ?_
  refine AWP.cond hσ rfl rfl (fun hc31 => ?_) (fun hc31 => ?_)
  ·
   skip
   refine AWP.skip ?_
   refine AWP.seq ?_
   refine AWP.block ?_
   refine jsr ?_
   have hil : i < a.pts.length := by have := of_decide_eq_true hc31; omega
   have hcl := (codeB_len (ann_yes hc26).2.2).2
   refine jst hσ rfl rfl rfl rfl rfl ?_
   first | refine jin hσ rfl rfl rfl rfl rfl rfl rfl rfl rfl rfl rfl ?_ | refine jix hσ rfl rfl rfl rfl rfl rfl rfl rfl rfl rfl rfl ?_ | refine jvf hσ rfl rfl rfl rfl rfl ?_
   refine jst hσ rfl rfl rfl rfl rfl ?_
   refine jf [34, 32, 31, 1, 28, 29, 30] rfl ?_
   refine AOps.heap (HS.alloc hσ rfl rfl rfl rfl rfl) rfl ?_
   refine jnm ?_
   refine jst hσ rfl rfl rfl rfl rfl ?_
   refine jf [3, 4, 34, 31, 1, 28, 29, 30] rfl ?_
   refine AOps.heap (HS.storeBox hσ rfl rfl rfl rfl rfl rfl rfl rfl rfl rfl rfl) rfl ?_
   refine jnm ?_
   refine AOps.to (Ent.freeze 4 (e' := [(4, _), (1, _), (28, _), (29, _), (30, _), (3, _)]) rfl (.cons rfl (.c (.box (cs := (a.pts.getD i default).cells) rfl (VMs.self rfl))) (.cons rfl (.keep rfl) (.cons rfl (.keep rfl) (.cons rfl (.keep rfl) (.cons rfl (.keep rfl) (.cons rfl (.keep rfl) .nil)))))) (.skip .nil)) ?_
   refine jnm ?_
   refine jn ?_
   refine AWP.seq ?_
   refine AWP.mid (F := ⟨[(63, eB (bif (bif !terms (a.pts.getD i default).fs 6 then true else !(inB 0 ((a.code.length : Int) - 1) (a.pts.getD i default).k)) then true else (bif decide ((0 : Int) < i) then decide ((a.pts.getD i default).k ≤ (a.pts.getD (i - 1) default).k) else false))), (1, ptr a.data), (28, apts a.pts), (29, eI a.pts.length), (30, eI i)], []⟩) ?_ ?_
   ·
    skip
    cases hb6 : !terms (a.pts.getD i default).fs 6 with
    | true =>
     refine AWP.drawG hσ _ [_, _, _, _, _, _, _, _, _, _, _, _, _, _, _, _, _, _, _, _, _, _, _, _, _, _, _, _, _] [⟨[], 0, 0, none⟩, ⟨[0], 0, 0, none⟩, ⟨[0, 1], 0, 0, some 0⟩, ⟨[0, 1, 2], 1, 1, none⟩, ⟨[0, 1, 2, 3], 1, 1, none⟩, ⟨[0, 1, 2, 3, 4], 0, 1, none⟩, ⟨[0, 1, 2, 3, 4, 5], 0, 1, none⟩, ⟨[0, 1, 2, 3, 4], 0, 1, none⟩, ⟨[0, 1, 2, 3, 4, 7], 0, 1, none⟩, ⟨[0, 1, 2, 3, 4, 7, 8], 0, 1, none⟩, ⟨[0, 1, 2, 3, 4, 5, 6, 7, 8, 9], 0, 1, none⟩, ⟨[0, 1, 2, 3, 4, 5, 6, 7, 8, 9, 10], 0, 1, none⟩, ⟨[0, 1, 2, 3, 4, 5, 6, 7, 8, 9, 10, 11], 1, 1, none⟩, ⟨[0, 1, 2, 3, 4, 5, 6, 7, 8, 9, 10, 11, 12], 1, 1, none⟩, ⟨[0, 1, 2, 3, 4, 5, 6, 7, 8, 9, 10, 11, 12, 13], 0, 1, none⟩, ⟨[0, 1, 2, 3, 4, 5, 6, 7, 8, 9, 10, 11, 12, 13, 14], 0, 1, none⟩, ⟨[0, 1, 2, 3, 4, 5, 6, 7, 8, 9, 10, 11, 12, 13, 14, 15], 0, 1, none⟩, ⟨[0, 1, 2, 3, 4, 5, 6, 7, 8, 9, 10, 11, 12, 13, 14, 15, 16], 0, 1, none⟩, ⟨[0, 1, 2, 3, 4, 5, 6, 7, 8, 9, 10, 11, 12, 13, 14, 15, 16, 17], 0, 1, none⟩, ⟨[0, 1, 2, 3, 4, 5, 6, 7, 8, 9, 10, 11, 12, 13, 14, 15, 16], 0, 1, none⟩, ⟨[0, 1, 2, 3, 4, 5, 6, 7, 8, 9, 10, 11, 12, 13, 14, 15, 16, 19], 0, 1, none⟩, ⟨[0, 1, 2, 3, 4, 5, 6, 7, 8, 9, 10, 11, 12, 13, 14, 15, 16, 17, 18, 19, 20], 0, 1, none⟩, ⟨[0, 1, 2, 3, 4, 5, 6, 7, 8, 9, 10, 11, 12, 13, 14, 15, 16, 17, 18, 19, 20, 21], 0, 1, none⟩, ⟨[0, 1, 2, 3, 4, 5, 6, 7, 8, 9, 10, 11, 12, 13, 14, 15, 16, 17, 18, 19, 20, 21, 22], 0, 1, none⟩, ⟨[0, 1, 2, 3, 4, 5, 6, 7, 8, 9, 10, 11, 12, 13, 14, 15, 16], 0, 1, none⟩, ⟨[0, 1, 2, 3, 4, 5, 6, 7, 8, 9, 10, 11, 12, 13, 14, 15, 16, 24], 0, 1, none⟩, ⟨[0, 1, 2, 3, 4, 5, 6, 7, 8, 9, 10, 11, 12, 13, 14, 15, 16, 17, 18, 19, 20, 21, 22, 23, 24, 25], 0, 1, none⟩, ⟨[0, 1, 2, 3, 4, 5, 6, 7, 8, 9, 10, 11, 12, 13, 14, 15, 16, 17, 18, 19, 20, 21, 22, 23, 24, 25, 26], 0, 1, none⟩, ⟨[0, 1, 2, 3, 4, 5, 6, 7, 8, 9, 10, 11, 12, 13, 14, 15, 16, 17, 18, 19, 20, 21, 22, 23, 24, 25, 26, 27], 1, 1, none⟩] [2] [_, _] rfl rfl (by decide) (by decide) (by kernel_rfl) (And.intro (Val.of hσ rfl rfl) (And.intro (Val.of hσ rfl rfl) (And.intro (Eff.lone hσ (B0 := 38000) rfl rfl rfl rfl (c125 h1 h2) (VAs.self rfl) rfl rfl rfl rfl rfl) (And.intro ((Val.of hσ rfl rfl).cast (v' := eB true) (congrArg eB hb6)) (And.intro (Val.of hσ rfl rfl) (And.intro ⟨rfl, rfl⟩ (And.intro ⟨rfl, rfl⟩ (And.intro ⟨rfl, rfl⟩ (And.intro ⟨rfl, rfl⟩ (And.intro ⟨rfl, rfl⟩ (And.intro ⟨rfl, rfl⟩ (And.intro ⟨rfl, rfl⟩ (And.intro (Val.pickY hσ rfl rfl rfl rfl rfl) (And.intro (Val.of hσ rfl rfl) (And.intro ⟨rfl, rfl⟩ (And.intro ⟨rfl, rfl⟩ (And.intro ⟨rfl, rfl⟩ (And.intro ⟨rfl, rfl⟩ (And.intro ⟨rfl, rfl⟩ (And.intro ⟨rfl, rfl⟩ (And.intro ⟨rfl, rfl⟩ (And.intro ⟨rfl, rfl⟩ (And.intro ⟨rfl, rfl⟩ (And.intro ⟨rfl, rfl⟩ (And.intro ⟨rfl, rfl⟩ (And.intro ⟨rfl, rfl⟩ (And.intro ⟨rfl, rfl⟩ (And.intro ⟨rfl, rfl⟩ (And.intro (Val.pickY hσ rfl rfl rfl rfl rfl) trivial))))))))))))))))))))))))))))) ?_
     exact ⟨rfl, Ent.env ⟨rfl, rfl, rfl, rfl, rfl, trivial⟩⟩
    | false =>
     cases hb6b : !(inB 0 ((a.code.length : Int) - 1) (a.pts.getD i default).k) with
     | true =>
      refine AWP.drawG hσ _ [_, _, _, _, _, _, _, _, _, _, _, _, _, _, _, _, _, _, _, _, _, _, _, _, _, _, _, _, _] [⟨[], 0, 0, none⟩, ⟨[0], 0, 0, none⟩, ⟨[0, 1], 0, 0, some 0⟩, ⟨[0, 1, 2], 1, 1, none⟩, ⟨[0, 1, 2, 3], 1, 1, none⟩, ⟨[0, 1, 2, 3, 4], 1, 1, none⟩, ⟨[0, 1, 2, 3, 4, 5], 1, 1, none⟩, ⟨[0, 1, 2, 3, 4], 1, 1, none⟩, ⟨[0, 1, 2, 3, 4, 7], 1, 1, none⟩, ⟨[0, 1, 2, 3, 4, 7, 8], 1, 1, none⟩, ⟨[0, 1, 2, 3, 4, 5, 6, 7, 8, 9], 0, 0, some 1⟩, ⟨[0, 1, 2, 3, 4, 5, 6, 7, 8, 9, 10], 2, 2, none⟩, ⟨[0, 1, 2, 3, 4, 5, 6, 7, 8, 9, 10, 11], 2, 2, none⟩, ⟨[0, 1, 2, 3, 4, 5, 6, 7, 8, 9, 10, 11, 12], 2, 2, none⟩, ⟨[0, 1, 2, 3, 4, 5, 6, 7, 8, 9, 10, 11, 12, 13], 0, 2, none⟩, ⟨[0, 1, 2, 3, 4, 5, 6, 7, 8, 9, 10, 11, 12, 13, 14], 0, 2, none⟩, ⟨[0, 1, 2, 3, 4, 5, 6, 7, 8, 9, 10, 11, 12, 13, 14, 15], 0, 2, none⟩, ⟨[0, 1, 2, 3, 4, 5, 6, 7, 8, 9, 10, 11, 12, 13, 14, 15, 16], 0, 2, none⟩, ⟨[0, 1, 2, 3, 4, 5, 6, 7, 8, 9, 10, 11, 12, 13, 14, 15, 16, 17], 0, 2, none⟩, ⟨[0, 1, 2, 3, 4, 5, 6, 7, 8, 9, 10, 11, 12, 13, 14, 15, 16], 0, 2, none⟩, ⟨[0, 1, 2, 3, 4, 5, 6, 7, 8, 9, 10, 11, 12, 13, 14, 15, 16, 19], 0, 2, none⟩, ⟨[0, 1, 2, 3, 4, 5, 6, 7, 8, 9, 10, 11, 12, 13, 14, 15, 16, 17, 18, 19, 20], 0, 2, none⟩, ⟨[0, 1, 2, 3, 4, 5, 6, 7, 8, 9, 10, 11, 12, 13, 14, 15, 16, 17, 18, 19, 20, 21], 0, 2, none⟩, ⟨[0, 1, 2, 3, 4, 5, 6, 7, 8, 9, 10, 11, 12, 13, 14, 15, 16, 17, 18, 19, 20, 21, 22], 0, 2, none⟩, ⟨[0, 1, 2, 3, 4, 5, 6, 7, 8, 9, 10, 11, 12, 13, 14, 15, 16], 0, 2, none⟩, ⟨[0, 1, 2, 3, 4, 5, 6, 7, 8, 9, 10, 11, 12, 13, 14, 15, 16, 24], 0, 2, none⟩, ⟨[0, 1, 2, 3, 4, 5, 6, 7, 8, 9, 10, 11, 12, 13, 14, 15, 16, 17, 18, 19, 20, 21, 22, 23, 24, 25], 0, 2, none⟩, ⟨[0, 1, 2, 3, 4, 5, 6, 7, 8, 9, 10, 11, 12, 13, 14, 15, 16, 17, 18, 19, 20, 21, 22, 23, 24, 25, 26], 0, 2, none⟩, ⟨[0, 1, 2, 3, 4, 5, 6, 7, 8, 9, 10, 11, 12, 13, 14, 15, 16, 17, 18, 19, 20, 21, 22, 23, 24, 25, 26, 27], 2, 2, none⟩] [2, 10] [_, _, _] rfl rfl (by decide) (by decide) (by kernel_rfl) (And.intro (Val.of hσ rfl rfl) (And.intro (Val.of hσ rfl rfl) (And.intro (Eff.lone hσ (B0 := 38000) rfl rfl rfl rfl (c125 h1 h2) (VAs.self rfl) rfl rfl rfl rfl rfl) (And.intro ((Val.of hσ rfl rfl).cast (v' := eB false) (congrArg eB hb6)) (And.intro (Val.of hσ rfl rfl) (And.intro (Val.of hσ rfl rfl) (And.intro (Val.of hσ rfl rfl) (And.intro (Val.of hσ rfl rfl) (And.intro (Val.of hσ rfl rfl) (And.intro (Val.lenD hσ rfl rfl rfl rfl rfl rfl rfl rfl) (And.intro (Eff.lone hσ (B0 := 46000) rfl rfl rfl rfl (c90 (k := (a.pts.getD i default).k) (n := a.code.length) h1 h2 (by omega)) (VAs.self rfl) rfl rfl rfl rfl rfl) (And.intro ((Val.of hσ rfl rfl).cast (v' := eB true) (congrArg eB hb6b)) (And.intro (Val.pickN hσ rfl rfl rfl rfl rfl) (And.intro (Val.of hσ rfl rfl) (And.intro ⟨rfl, rfl⟩ (And.intro ⟨rfl, rfl⟩ (And.intro ⟨rfl, rfl⟩ (And.intro ⟨rfl, rfl⟩ (And.intro ⟨rfl, rfl⟩ (And.intro ⟨rfl, rfl⟩ (And.intro ⟨rfl, rfl⟩ (And.intro ⟨rfl, rfl⟩ (And.intro ⟨rfl, rfl⟩ (And.intro ⟨rfl, rfl⟩ (And.intro ⟨rfl, rfl⟩ (And.intro ⟨rfl, rfl⟩ (And.intro ⟨rfl, rfl⟩ (And.intro ⟨rfl, rfl⟩ (And.intro (Val.pickY hσ rfl rfl rfl rfl rfl) trivial))))))))))))))))))))))))))))) ?_
      exact ⟨rfl, Ent.env ⟨rfl, rfl, rfl, rfl, rfl, trivial⟩⟩
     | false =>
      cases hb6c : decide ((0 : Int) < i) with
      | true =>
       have hi0 : 0 < i := by have := of_decide_eq_true hb6c; omega
       refine AWP.drawG hσ _ [_, _, _, _, _, _, _, _, _, _, _, _, _, _, _, _, _, _, _, _, _, _, _, _, _, _, _, _, _] [⟨[], 0, 0, none⟩, ⟨[0], 0, 0, none⟩, ⟨[0, 1], 0, 0, some 0⟩, ⟨[0, 1, 2], 1, 1, none⟩, ⟨[0, 1, 2, 3], 1, 1, none⟩, ⟨[0, 1, 2, 3, 4], 1, 1, none⟩, ⟨[0, 1, 2, 3, 4, 5], 1, 1, none⟩, ⟨[0, 1, 2, 3, 4], 1, 1, none⟩, ⟨[0, 1, 2, 3, 4, 7], 1, 1, none⟩, ⟨[0, 1, 2, 3, 4, 7, 8], 1, 1, none⟩, ⟨[0, 1, 2, 3, 4, 5, 6, 7, 8, 9], 0, 0, some 1⟩, ⟨[0, 1, 2, 3, 4, 5, 6, 7, 8, 9, 10], 2, 2, none⟩, ⟨[0, 1, 2, 3, 4, 5, 6, 7, 8, 9, 10, 11], 2, 2, none⟩, ⟨[0, 1, 2, 3, 4, 5, 6, 7, 8, 9, 10, 11, 12], 2, 2, none⟩, ⟨[0, 1, 2, 3, 4, 5, 6, 7, 8, 9, 10, 11, 12, 13], 2, 2, none⟩, ⟨[0, 1, 2, 3, 4, 5, 6, 7, 8, 9, 10, 11, 12, 13, 14], 2, 2, none⟩, ⟨[0, 1, 2, 3, 4, 5, 6, 7, 8, 9, 10, 11, 12, 13, 14, 15], 2, 2, none⟩, ⟨[0, 1, 2, 3, 4, 5, 6, 7, 8, 9, 10, 11, 12, 13, 14, 15, 16], 2, 2, none⟩, ⟨[0, 1, 2, 3, 4, 5, 6, 7, 8, 9, 10, 11, 12, 13, 14, 15, 16, 17], 2, 2, none⟩, ⟨[0, 1, 2, 3, 4, 5, 6, 7, 8, 9, 10, 11, 12, 13, 14, 15, 16], 2, 2, none⟩, ⟨[0, 1, 2, 3, 4, 5, 6, 7, 8, 9, 10, 11, 12, 13, 14, 15, 16, 19], 2, 2, none⟩, ⟨[0, 1, 2, 3, 4, 5, 6, 7, 8, 9, 10, 11, 12, 13, 14, 15, 16, 17, 18, 19, 20], 2, 2, none⟩, ⟨[0, 1, 2, 3, 4, 5, 6, 7, 8, 9, 10, 11, 12, 13, 14, 15, 16, 17, 18, 19, 20, 21], 2, 2, none⟩, ⟨[0, 1, 2, 3, 4, 5, 6, 7, 8, 9, 10, 11, 12, 13, 14, 15, 16, 17, 18, 19, 20, 21, 22], 2, 2, none⟩, ⟨[0, 1, 2, 3, 4, 5, 6, 7, 8, 9, 10, 11, 12, 13, 14, 15, 16], 2, 2, none⟩, ⟨[0, 1, 2, 3, 4, 5, 6, 7, 8, 9, 10, 11, 12, 13, 14, 15, 16, 24], 2, 2, none⟩, ⟨[0, 1, 2, 3, 4, 5, 6, 7, 8, 9, 10, 11, 12, 13, 14, 15, 16, 17, 18, 19, 20, 21, 22, 23, 24, 25], 2, 2, none⟩, ⟨[0, 1, 2, 3, 4, 5, 6, 7, 8, 9, 10, 11, 12, 13, 14, 15, 16, 17, 18, 19, 20, 21, 22, 23, 24, 25, 26], 2, 2, none⟩, ⟨[0, 1, 2, 3, 4, 5, 6, 7, 8, 9, 10, 11, 12, 13, 14, 15, 16, 17, 18, 19, 20, 21, 22, 23, 24, 25, 26, 27], 2, 2, none⟩] [2, 10] [_, _, _] rfl rfl (by decide) (by decide) (by kernel_rfl) (And.intro (Val.of hσ rfl rfl) (And.intro (Val.of hσ rfl rfl) (And.intro (Eff.lone hσ (B0 := 38000) rfl rfl rfl rfl (c125 h1 h2) (VAs.self rfl) rfl rfl rfl rfl rfl) (And.intro ((Val.of hσ rfl rfl).cast (v' := eB false) (congrArg eB hb6)) (And.intro (Val.of hσ rfl rfl) (And.intro (Val.of hσ rfl rfl) (And.intro (Val.of hσ rfl rfl) (And.intro (Val.of hσ rfl rfl) (And.intro (Val.of hσ rfl rfl) (And.intro (Val.lenD hσ rfl rfl rfl rfl rfl rfl rfl rfl) (And.intro (Eff.lone hσ (B0 := 46000) rfl rfl rfl rfl (c90 (k := (a.pts.getD i default).k) (n := a.code.length) h1 h2 (by omega)) (VAs.self rfl) rfl rfl rfl rfl rfl) (And.intro ((Val.of hσ rfl rfl).cast (v' := eB false) (congrArg eB hb6b)) (And.intro (Val.pickN hσ rfl rfl rfl rfl rfl) (And.intro (Val.of hσ rfl rfl) (And.intro (Val.of hσ rfl rfl) (And.intro ((Val.of hσ rfl rfl).cast (v' := eB true) (congrArg eB hb6c)) (And.intro (Val.of hσ rfl rfl) (And.intro (Val.of hσ rfl rfl) (And.intro (Val.of hσ rfl rfl) (And.intro (Val.of hσ rfl rfl) (And.intro ((Val.fits64 hσ rfl rfl (by first | omega | (simp at *; omega)) (by first | omega | (simp at *; omega))).cast (v' := eI ((i - 1 : Nat) : Int)) (congrArg eI (by omega))) (And.intro (Val.indexN hσ rfl rfl rfl rfl rfl rfl rfl rfl (idxN (by first | omega | (simp at *; omega)))) (And.intro (Val.of hσ rfl rfl) (And.intro (Val.of hσ rfl rfl) (And.intro (Val.of hσ rfl rfl) (And.intro (Val.of hσ rfl rfl) (And.intro (Val.of hσ rfl rfl) (And.intro (Val.pickY hσ rfl rfl rfl rfl rfl) (And.intro (Val.pickN hσ rfl rfl rfl rfl rfl) trivial))))))))))))))))))))))))))))) ?_
       exact ⟨rfl, Ent.env ⟨rfl, rfl, rfl, rfl, rfl, trivial⟩⟩
      | false =>
       refine AWP.drawG hσ _ [_, _, _, _, _, _, _, _, _, _, _, _, _, _, _, _, _, _, _, _, _, _, _, _, _, _, _, _, _] [⟨[], 0, 0, none⟩, ⟨[0], 0, 0, none⟩, ⟨[0, 1], 0, 0, some 0⟩, ⟨[0, 1, 2], 1, 1, none⟩, ⟨[0, 1, 2, 3], 1, 1, none⟩, ⟨[0, 1, 2, 3, 4], 1, 1, none⟩, ⟨[0, 1, 2, 3, 4, 5], 1, 1, none⟩, ⟨[0, 1, 2, 3, 4], 1, 1, none⟩, ⟨[0, 1, 2, 3, 4, 7], 1, 1, none⟩, ⟨[0, 1, 2, 3, 4, 7, 8], 1, 1, none⟩, ⟨[0, 1, 2, 3, 4, 5, 6, 7, 8, 9], 0, 0, some 1⟩, ⟨[0, 1, 2, 3, 4, 5, 6, 7, 8, 9, 10], 2, 2, none⟩, ⟨[0, 1, 2, 3, 4, 5, 6, 7, 8, 9, 10, 11], 2, 2, none⟩, ⟨[0, 1, 2, 3, 4, 5, 6, 7, 8, 9, 10, 11, 12], 2, 2, none⟩, ⟨[0, 1, 2, 3, 4, 5, 6, 7, 8, 9, 10, 11, 12, 13], 2, 2, none⟩, ⟨[0, 1, 2, 3, 4, 5, 6, 7, 8, 9, 10, 11, 12, 13, 14], 2, 2, none⟩, ⟨[0, 1, 2, 3, 4, 5, 6, 7, 8, 9, 10, 11, 12, 13, 14, 15], 2, 2, none⟩, ⟨[0, 1, 2, 3, 4, 5, 6, 7, 8, 9, 10, 11, 12, 13, 14, 15, 16], 0, 2, none⟩, ⟨[0, 1, 2, 3, 4, 5, 6, 7, 8, 9, 10, 11, 12, 13, 14, 15, 16, 17], 0, 2, none⟩, ⟨[0, 1, 2, 3, 4, 5, 6, 7, 8, 9, 10, 11, 12, 13, 14, 15, 16], 0, 2, none⟩, ⟨[0, 1, 2, 3, 4, 5, 6, 7, 8, 9, 10, 11, 12, 13, 14, 15, 16, 19], 0, 2, none⟩, ⟨[0, 1, 2, 3, 4, 5, 6, 7, 8, 9, 10, 11, 12, 13, 14, 15, 16, 17, 18, 19, 20], 0, 2, none⟩, ⟨[0, 1, 2, 3, 4, 5, 6, 7, 8, 9, 10, 11, 12, 13, 14, 15, 16, 17, 18, 19, 20, 21], 0, 2, none⟩, ⟨[0, 1, 2, 3, 4, 5, 6, 7, 8, 9, 10, 11, 12, 13, 14, 15, 16, 17, 18, 19, 20, 21, 22], 0, 2, none⟩, ⟨[0, 1, 2, 3, 4, 5, 6, 7, 8, 9, 10, 11, 12, 13, 14, 15, 16], 0, 2, none⟩, ⟨[0, 1, 2, 3, 4, 5, 6, 7, 8, 9, 10, 11, 12, 13, 14, 15, 16, 24], 0, 2, none⟩, ⟨[0, 1, 2, 3, 4, 5, 6, 7, 8, 9, 10, 11, 12, 13, 14, 15, 16, 17, 18, 19, 20, 21, 22, 23, 24, 25], 0, 2, none⟩, ⟨[0, 1, 2, 3, 4, 5, 6, 7, 8, 9, 10, 11, 12, 13, 14, 15, 16, 17, 18, 19, 20, 21, 22, 23, 24, 25, 26], 2, 2, none⟩, ⟨[0, 1, 2, 3, 4, 5, 6, 7, 8, 9, 10, 11, 12, 13, 14, 15, 16, 17, 18, 19, 20, 21, 22, 23, 24, 25, 26, 27], 2, 2, none⟩] [2, 10] [_, _, _] rfl rfl (by decide) (by decide) (by kernel_rfl) (And.intro (Val.of hσ rfl rfl) (And.intro (Val.of hσ rfl rfl) (And.intro (Eff.lone hσ (B0 := 38000) rfl rfl rfl rfl (c125 h1 h2) (VAs.self rfl) rfl rfl rfl rfl rfl) (And.intro ((Val.of hσ rfl rfl).cast (v' := eB false) (congrArg eB hb6)) (And.intro (Val.of hσ rfl rfl) (And.intro (Val.of hσ rfl rfl) (And.intro (Val.of hσ rfl rfl) (And.intro (Val.of hσ rfl rfl) (And.intro (Val.of hσ rfl rfl) (And.intro (Val.lenD hσ rfl rfl rfl rfl rfl rfl rfl rfl) (And.intro (Eff.lone hσ (B0 := 46000) rfl rfl rfl rfl (c90 (k := (a.pts.getD i default).k) (n := a.code.length) h1 h2 (by omega)) (VAs.self rfl) rfl rfl rfl rfl rfl) (And.intro ((Val.of hσ rfl rfl).cast (v' := eB false) (congrArg eB hb6b)) (And.intro (Val.pickN hσ rfl rfl rfl rfl rfl) (And.intro (Val.of hσ rfl rfl) (And.intro (Val.of hσ rfl rfl) (And.intro ((Val.of hσ rfl rfl).cast (v' := eB false) (congrArg eB hb6c)) (And.intro (Val.of hσ rfl rfl) (And.intro ⟨rfl, rfl⟩ (And.intro ⟨rfl, rfl⟩ (And.intro ⟨rfl, rfl⟩ (And.intro ⟨rfl, rfl⟩ (And.intro ⟨rfl, rfl⟩ (And.intro ⟨rfl, rfl⟩ (And.intro ⟨rfl, rfl⟩ (And.intro ⟨rfl, rfl⟩ (And.intro ⟨rfl, rfl⟩ (And.intro ⟨rfl, rfl⟩ (And.intro (Val.pickN hσ rfl rfl rfl rfl rfl) (And.intro (Val.pickN hσ rfl rfl rfl rfl rfl) trivial))))))))))))))))))))))))))))) ?_
       exact ⟨rfl, Ent.env ⟨rfl, rfl, rfl, rfl, rfl, trivial⟩⟩
   refine AWP.cond hσ rfl rfl (fun hc63 => ?_) (fun hc63 => ?_)
   ·
    skip
    refine jsr ?_
    refine jst hσ rfl rfl rfl rfl rfl ?_
    refine jn ?_
    refine AWP.ret ?_
    refine ⟨.inl rfl, _, Ent.refl, _, rfl, ?_⟩
    rw [(ann_yes hc26).1, ptsB_not i hil (notF (pt_notI.symm.trans hc63))]
   ·
    skip
    refine AWP.skip ?_
    refine AWP.region ?_
    first | refine jfi hσ rfl rfl rfl rfl rfl ?_ | refine jvf hσ rfl rfl rfl rfl rfl ?_
    refine jst hσ rfl rfl rfl rfl rfl ?_
    refine jn ?_
    have h9 : ptB a.code.length a.pts i = true := notT (pt_notI.symm.trans hc63)
    refine ⟨i + 1, Ent.env ⟨rfl, rfl, rfl, rfl, trivial⟩, ⟨by omega, fun j hj => ?_⟩, by omega⟩
    by_cases e : j = i
    ·
     subst e; exact h9
    ·
     exact hi.2 j (by omega)
  ·
   skip
   refine AWP.exit ?_
   refine jsr ?_
   refine jst hσ rfl rfl rfl rfl rfl ?_
   refine jn ?_
   refine AWP.ret ?_
   refine ⟨.inl rfl, _, Ent.refl, _, rfl, ?_⟩
   rw [(ann_yes hc26).1, ptsB_of fun j hj => hi.2 j (by have := of_decide_eq_false hc31; omega)]
end Go.Al
