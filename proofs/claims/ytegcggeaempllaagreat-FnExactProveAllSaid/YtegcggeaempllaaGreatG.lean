/- The contexts of a proof, as the reference computes them. -/
import Derived.Test.YtegcggeaempllaaGreatE
namespace Go.Al
set_option linter.unusedVariables false
/-! ### The contexts of a proof, as the reference computes them -/
theorem mkT_ok {c : Int} {xs : List Int} (h : (mkT c xs).2 = true) : (mkT c xs).1.ok = true := by
  unfold mkT at h ⊢
  split at h
  · rename_i h1; rw [if_pos h1]; exact h1
  · cases h
theorem oppT_ok {t : Tm} (h : (oppT t).2 = true) : (oppT t).1.ok = true := mkT_ok h
theorem tightS_ok {t : Tm} (h : (tightS t).2 = true) : (tightS t).1.ok = true := by
  unfold tightS at h ⊢
  split at h
  · cases h
  · rename_i h1; rw [if_neg h1]; exact mkT_ok h
theorem zero_ok {t : Tm} (h : t.zero = true) : t.ok = true := by
  simp only [Tm.zero, Bool.and_eq_true, decide_eq_true_eq] at h
  have h3 : t.xs = [] := List.eq_nil_of_length_eq_zero (by omega)
  simp [Tm.ok, num, h.1, h3]
theorem ndB_term {n : Nd} (h : ndB n = true) : n.term.ok = true := by
  unfold ndB at h
  split at h
  · simp only [Bool.and_eq_true] at h; exact zero_ok h.1.2
  · split at h
    · simp only [Bool.and_eq_true] at h; exact h.1.2
    · split at h
      · simp only [Bool.and_eq_true] at h; exact zero_ok h.1.2
      · cases h
structure CS where
  all : List (List Tm)
  has : List Bool
  right : List Bool
  flaw : Int
def fineF (p : List Nd) (k : Nat) (z : CS) : Bool := if k = 0 then true else z.right.getD (par p k k).1.toNat default
def ownF (p : List Nd) (c0 : List Tm) (k : Nat) (z : CS) : List Tm := if k = 0 then c0 else if fineF p k z = true then belowS (p.getD (par p k k).1.toNat default) (z.all.getD (par p k k).1.toNat default) (par p k k).2 else []
def rightF (p : List Nd) (c0 : List Tm) (k : Nat) (z : CS) : Bool := fineF p k z && rightB (p.getD k default) (ownF p c0 k z)
def csStep (p : List Nd) (c0 : List Tm) (k : Nat) (z : CS) : CS := ⟨z.all ++ [ownF p c0 k z], z.has ++ [fineF p k z], z.right ++ [rightF p c0 k z], if (fineF p k z && !rightF p c0 k z) && decide (z.flaw < 0) then (k : Int) else z.flaw⟩
def csRun (p : List Nd) (c0 : List Tm) : Nat → CS
  | 0 => ⟨[], [], [], -1⟩
  | k + 1 => csStep p c0 k (csRun p c0 k)
structure CSok (p : List Nd) (k : Nat) (z : CS) : Prop where
  all : z.all.length = k
  has : z.has.length = k
  right : z.right.length = k
  flaw : -1 ≤ z.flaw ∧ z.flaw < k
  ctx : ∀ j, j < k → z.has.getD j default = true → CtxOk (z.all.getD j default)
  good : ∀ j, j < k → z.right.getD j default = true → z.has.getD j default = true ∧ rightB (p.getD j default) (z.all.getD j default) = true
abbrev cL (c : List Tm) : List D := [tms c]
abbrev bL (b : Bool) : List D := [.bool b]
abbrev ctxsD (cs : List (List Tm)) : D := .slc 1 (cs.map cL)
abbrev boolsD (bs : List Bool) : D := .slc 1 (bs.map bL)
structure Con where
  all : List (List Tm)
  has : List Bool
  flaw : Int
  ok : Bool
def conS (s : Sq) (p : List Nd) : Con := if (oppT s.goal).2 = true then ⟨(csRun p (ctxS s).1 p.length).all, (csRun p (ctxS s).1 p.length).has, (csRun p (ctxS s).1 p.length).flaw, true⟩ else ⟨[], [], 0, false⟩
theorem seqB_spec {s : Sq} (h : seqB s = true) : (∀ t ∈ s.facts, t.ok = true) ∧ s.facts.length ≤ 13 ∧ s.goal.ok = true := by
  simp only [seqB, allOk, Bool.and_eq_true, decide_eq_true_eq, List.all_eq_true] at h
  exact ⟨h.1.1, by omega, h.2⟩
end Go.Al
namespace Go.Al
open Go.Proofs
set_option linter.unusedVariables false
set_option linter.unusedSimpArgs false
set_option maxRecDepth 10000
theorem ctxS_2 {s : Sq} : (ctxS s).2 = (oppT s.goal).2 := by unfold ctxS; split <;> simp_all
end Go.Al
namespace Go.Al
open Go.Proofs
set_option linter.unusedVariables false
set_option linter.unusedSimpArgs false
set_option maxRecDepth 10000
theorem nt {b : Bool} (h : (!b) = true) : b = false := by cases b <;> simp_all
theorem nf {b : Bool} (h : (!b) = false) : b = true := by cases b <;> simp_all
theorem g2 {a b : Bool} : (bif !a then true else !b) = !(a && b) := by cases a <;> cases b <;> rfl
def inK (k : Int) (p : List Nd) : Bool := decide (0 ≤ k) && decide (k ≤ (p.length : Int) - 1)
def ctxAtS (s : Sq) (p : List Nd) (k : Int) : List Tm × Bool := if (seqB s && isB p && inK k p) = true then (if ((conS s p).ok && (conS s p).has.getD k.toNat default) = true then ((conS s p).all.getD k.toNat default, true) else ([], false)) else ([], false)
def chkS (s : Sq) (p : List Nd) : Bool := (seqB s && isB p) && ((conS s p).ok && decide ((conS s p).flaw < 0))
end Go.Al
namespace Go.Al
open Go.Proofs
set_option linter.unusedVariables false
set_option linter.unusedSimpArgs false
set_option maxRecDepth 10000
def muls (f : Int → Bool) (ms : List Int) (n : Nat) (bs : List Bool) : Nat → List Bool
  | 0 => bs
  | j + 1 => if (f (ms.getD j default) && decide (j < n)) = true then (muls f ms n bs j).set j true else muls f ms n bs j
def factB (x : Nd) (n : Nat) (bs : List Bool) : List Bool := if x.kind = 3 ∧ x.fact < n then bs.set x.fact.toNat true else bs
def usedN (f : Int → Bool) (p : List Nd) (n : Nat) : Nat → List Bool
  | 0 => List.replicate n false
  | i + 1 => muls f (p.getD i default).mul n (factB (p.getD i default) n (usedN f p n i)) (p.getD i default).mul.length
abbrev brow (bs : List Bool) : B := .row true 1 (bs.map bL)
abbrev psv : Int → Bool := fun m => decide (0 < m)
abbrev nz : Int → Bool := fun m => !decide (m = 0)
def idxs (bs : List Bool) : Nat → List Int
  | 0 => []
  | i + 1 => if bs.getD i default = true then idxs bs i ++ [(i : Int)] else idxs bs i
theorem idx0 {α β : Type} [Inhabited α] {l : List α} {f : α → β} {n : Nat} (h : n < l.length) : (l.map f)[0 + n]? = some (f (l.getD n default)) := by rw [Nat.zero_add]; simp [h]
end Go.Al
namespace Go.Al
open Go.Proofs
set_option linter.unusedVariables false
set_option linter.unusedSimpArgs false
set_option maxRecDepth 10000
def usedFactsS (s : Sq) (p : List Nd) : List Int × Bool := if chkS s p = true then (idxs (usedN psv p (s.facts.length + 1) p.length) (s.facts.length + 1), true) else ([], false)
abbrev resU (r : List Int × Bool) : A := .tup [aints r.1, eB r.2]
abbrev sqs (ss : List Sq) : D := .slc 3 (ss.map Sq.cells)
abbrev asqs (ss : List Sq) : A := .c (.d (sqs ss))
abbrev ndC (p : List Nd) : List D := [nds p]
abbrev ndss (ps : List (List Nd)) : D := .slc 1 (ps.map ndC)
abbrev andss (ps : List (List Nd)) : A := .c (.d (ndss ps))
def provedS (ss : List Sq) (ps : List (List Nd)) : Bool := decide (ps.length = ss.length) && (List.range ss.length).all fun j => chkS (ss.getD j default) (ps.getD j default)
def areS (ss : List Sq) (ps : List (List Nd)) : Bool := ss.all seqB && (decide ((ss.length : Int) ≤ 60) && provedS ss ps)
end Go.Al
namespace Go.Al
open Go.Proofs
set_option linter.unusedVariables false
set_option linter.unusedSimpArgs false
set_option maxRecDepth 10000
abbrev combI (ts : List Tm) (ms : List Int) : Tm := ⟨dotG Tm.c ts ms, trim (colsL ts ms)⟩
abbrev oppI (t : Tm) : Tm := ⟨dotG Tm.c [t] [-1] - 1, trim (colsL [t] [-1])⟩
def closesI (ctx : List Tm) (ms : List Int) : Bool := decide (ms.length = ctx.length) && (decide ((trim (colsL ctx ms)).length = 0) && decide (dotG Tm.c ctx ms < 0))
def ctxI (s : Sq) : List Tm × Bool := if (seqB s && (oppI s.goal).ok) = true then (s.facts ++ [oppI s.goal], true) else ([], false)
theorem c200 {L : Nat} (h1 : 4096 ≤ L) (h2 : L ≤ 1073741824) {ts : List Tm} {n : Int} : MC Tryz.prog L 56 [atms ts, eI n] [] (Plain (eB (allOk ts n))) := by
 refine MC.alone ?_ rfl
 have hσ := SGok (nt := 21) h1 (Nat.le_trans h2 (by decide))
 refine MC.body hσ Tryz.func56 (by kernel_rfl) rfl rfl (Nat.le_of_ble_eq_true rfl) (fun hF => ?_)
 have hl : ts.length ≤ L := by simpa [As.fact, A.fact, M.fact, D.fact, Ds.fact] using hF.1.1
 refine jsr ?_
 refine jst hσ rfl rfl rfl rfl rfl ?_
 refine jn ?_
 refine AWP.seq ?_
 refine jsr ?_
 refine jst hσ rfl rfl rfl rfl rfl ?_
 first | refine jle hσ rfl rfl rfl rfl rfl rfl rfl rfl rfl rfl rfl ?_ | refine jst hσ rfl rfl rfl rfl rfl ?_ | refine jvf hσ rfl rfl rfl rfl rfl ?_
 iterate 2 refine jst hσ rfl rfl rfl rfl rfl ?_
 refine jf4 10 4 0 1 rfl rfl rfl rfl ?_
 refine jn ?_
 refine AWP.cond hσ rfl rfl (fun hc10 => ?_) (fun hc10 => ?_)
 ·
  try simp only [jcs] at hc10
  refine jsr ?_
  refine jst hσ rfl rfl rfl rfl rfl ?_
  refine jn ?_
  refine AWP.ret ?_
  refine ⟨.inl rfl, _, Ent.refl, _, rfl, ?_⟩
  rw [allOk, decide_eq_false (show ¬ (ts.length : Int) ≤ n by omega), Bool.and_false]
 ·
  try simp only [jcs] at hc10
  refine AWP.skip ?_
  refine AWP.seq ?_
  refine jsr ?_
  refine jst hσ rfl rfl rfl rfl rfl ?_
  first | refine jle hσ rfl rfl rfl rfl rfl rfl rfl rfl rfl rfl rfl ?_ | refine jst hσ rfl rfl rfl rfl rfl ?_ | refine jvf hσ rfl rfl rfl rfl rfl ?_
  refine jst hσ rfl rfl rfl rfl rfl ?_
  refine jn ?_
  refine AWP.block ?_
  refine AWP.loopP (X := Nat) (fun i => ⟨[(1, eI n), (11, atms ts), (12, eI ts.length), (13, eI i)], []⟩) (fun i => i ≤ ts.length ∧ ∀ j (h : j < ts.length), j < i → Tm.ok ts[j] = true) (fun i => ts.length - i) 0 (Ent.to ⟨rfl, rfl, rfl, rfl, trivial⟩ rfl) ?_ (fun i hi => ?_)
  ·
   exact ⟨Nat.zero_le _, fun j h hj => absurd hj (Nat.not_lt_zero j)⟩
  refine jsr ?_
  refine jst hσ rfl rfl rfl rfl rfl ?_
  refine jn ?_
  refine AWP.seq ?_
  refine AWP.cond hσ rfl rfl (fun hc14 => ?_) (fun hc14 => ?_)
  ·
   try simp only [jcs] at hc14
   refine AWP.skip ?_
   refine AWP.seq ?_
   refine AWP.block ?_
   refine jsr ?_
   first | refine jin hσ rfl rfl rfl rfl rfl rfl rfl rfl rfl rfl rfl ?_ | refine jix hσ rfl rfl rfl rfl rfl rfl rfl rfl rfl rfl rfl ?_ | refine jvf hσ rfl rfl rfl rfl rfl ?_
   refine jst hσ rfl rfl rfl rfl rfl ?_
   refine jf6 16 14 1 11 12 13 rfl rfl rfl rfl rfl rfl ?_
   refine AOps.heap (HS.alloc hσ rfl rfl rfl rfl rfl) rfl ?_
   refine AOps.heap (HS.storeBox hσ rfl rfl rfl rfl rfl rfl rfl rfl rfl rfl rfl) rfl ?_
   refine jns ?_
   refine jst hσ rfl rfl rfl rfl rfl ?_
   refine AOps.lone hσ rfl rfl rfl rfl (c185 (t := ts.getD i default) h1 h2) (VAs.self rfl) rfl rfl rfl rfl rfl (B0 := 19000) rfl ?_
   refine jst hσ rfl rfl rfl rfl rfl ?_
   refine jf8 19 6 16 14 1 11 12 13 rfl rfl rfl rfl rfl rfl rfl rfl ?_
   refine jn ?_
   refine AWP.cond hσ rfl rfl (fun hc19 => ?_) (fun hc19 => ?_)
   ·
    try simp only [jcs] at hc19
    refine jsr ?_
    refine jst hσ rfl rfl rfl rfl rfl ?_
    refine jn ?_
    refine AWP.ret ?_
    refine ⟨.inl rfl, _, Ent.refl, _, rfl, ?_⟩
    rw [getD_lt (by omega)] at hc19
    rw [allOk, all_not i (by omega) hc19, Bool.false_and]
   ·
    try simp only [jcs] at hc19
    refine AWP.skip ?_
    refine AWP.region ?_
    first | refine jfi hσ rfl rfl rfl rfl rfl ?_ | refine jvf hσ rfl rfl rfl rfl rfl ?_
    refine jst hσ rfl rfl rfl rfl rfl ?_
    refine jn ?_
    refine ⟨i + 1, (Ent.sel [] (e' := [(1, _), (11, _), (12, _), (13, _)]) rfl rfl ⟨rfl, rfl, rfl, rfl, trivial⟩ rfl), ⟨by omega, fun j h hj => ?_⟩, by omega⟩
    by_cases e : j = i
    ·
     subst e; rw [getD_lt h] at hc19; exact hc19
    ·
     exact hi.2 j h (by omega)
  ·
   try simp only [jcs] at hc14
   refine AWP.exit ?_
   refine jsr ?_
   refine jst hσ rfl rfl rfl rfl rfl ?_
   refine jn ?_
   refine AWP.ret ?_
   refine ⟨.inl rfl, _, Ent.refl, _, rfl, ?_⟩
   rw [allOk, all_of (fun j hj => hi.2 j hj (by omega)), decide_eq_true (show (ts.length : Int) ≤ n by omega), Bool.true_and]
theorem c184 {L : Nat} (h1 : 4096 ≤ L) (h2 : L ≤ 1073741824) {s : Sq} : MC Tryz.prog L 36 [aSq s] [] (Plain (eB (seqB s))) := by
 refine MC.alone ?_ rfl
 have hσ := SGok (nt := 11) h1 (Nat.le_trans h2 (by decide))
 refine MC.body hσ Tryz.func36 (by kernel_rfl) rfl rfl (Nat.le_of_ble_eq_true rfl) (fun hF => ?_)
 refine jsr ?_
 refine AOps.heap (HS.box hσ rfl rfl rfl rfl rfl rfl rfl) rfl ?_
 refine jst hσ rfl rfl rfl rfl rfl ?_
 refine jns ?_
 iterate 2 refine jst hσ rfl rfl rfl rfl rfl ?_
 refine jf4 4 2 1 0 rfl rfl rfl rfl ?_
 refine AOps.lone hσ rfl rfl rfl rfl (c200 h1 h2) (VAs.self rfl) rfl rfl rfl rfl rfl (B0 := 6000) rfl ?_
 refine jst hσ rfl rfl rfl rfl rfl ?_
 refine jf4 6 2 1 0 rfl rfl rfl rfl ?_
 refine AOps.gr 3 rfl rfl rfl (fun hx => AN.step hx rfl rfl rfl (Val.of hσ rfl rfl) rfl rfl ( AN.step hx rfl rfl rfl (Val.of hσ rfl rfl) rfl rfl ( AN.lone hσ hx rfl rfl rfl rfl (c185 h1 h2) (VAs.self rfl) rfl rfl rfl rfl rfl rfl rfl (B0 := 10000) rfl ( AN.nil)))) rfl rfl ?_
 first | refine AOps.step (Val.pickT hσ rfl rfl rfl rfl rfl) rfl rfl rfl ?_ | refine AOps.step (Val.pickF hσ rfl rfl rfl rfl rfl) rfl rfl rfl ?_ | refine AOps.step (Val.pickB hσ rfl rfl rfl rfl rfl) rfl rfl rfl ?_
 refine jst hσ rfl rfl rfl rfl rfl ?_
 refine AOps.forget [(2, _), (0, _)] ⟨rfl, rfl, trivial⟩ ?_
 refine jn ?_
 refine AWP.ret ?_
 refine ⟨.inl rfl, _, Ent.refl, _, rfl, ?_⟩
 rw [Bool.cond_false_right]; rfl
theorem c210 {L : Nat} (h1 : 4096 ≤ L) (h2 : L ≤ 1073741824) {t : Tm} : MC Tryz.prog L 95 [aTm' t] [] (Plain (aTm' ⟨t.c, trim t.xs⟩)) := by
 refine MC.data ?_
 have hσ := SGok (nt := 26) h1 (Nat.le_trans h2 (by decide))
 refine MC.body hσ Tryz.func95 (by kernel_rfl) rfl rfl (Nat.le_of_ble_eq_true rfl) (fun hF => ?_)
 have hl : t.xs.length ≤ L := by simpa [As.fact, A.fact, M.fact, Ms.fact, D.fact, Ds.fact] using hF.1.2.1.1
 refine jsr ?_
 refine AOps.heap (HS.box hσ rfl rfl rfl rfl rfl rfl rfl) rfl ?_
 refine AOps.forget [(1, _)] ⟨rfl, trivial⟩ ?_
 refine AOps.heap (HS.alloc hσ rfl rfl rfl rfl rfl) rfl ?_
 refine jns ?_
 iterate 2 refine jst hσ rfl rfl rfl rfl rfl ?_
 first | refine jle hσ rfl rfl rfl rfl rfl rfl rfl rfl rfl rfl rfl ?_ | refine jst hσ rfl rfl rfl rfl rfl ?_ | refine jvf hσ rfl rfl rfl rfl rfl ?_
 refine jst hσ rfl rfl rfl rfl rfl ?_
 refine jf3 3 2 1 rfl rfl rfl ?_
 refine jn ?_
 refine AWP.seq ?_
 refine AWP.block ?_
 refine AWP.loopP (X := Nat) (fun n => ⟨[(1, .c (.pt 1 0 0)), (2, .c (.pt 2 0 0)), (3, eI n)], [(1, .box [.d (.int .i64 t.c), .d (ints t.xs)]), (2, .box [.d (.int .i64 0), .d .nils])]⟩) (fun n => n ≤ t.xs.length ∧ trim (t.xs.take n) = trim t.xs) (fun n => n) t.xs.length (Ent.env ⟨rfl, rfl, rfl, trivial⟩) ?_ (fun n hi => ?_)
 ·
  exact ⟨Nat.le_refl _, by rw [List.take_length]⟩
 refine AWP.seq ?_
 refine jsr ?_
 iterate 3 refine jst hσ rfl rfl rfl rfl rfl ?_
 refine jf4 9 1 2 3 rfl rfl rfl rfl ?_
 refine AOps.gr 7 rfl rfl rfl (fun hx => AN.step hx rfl rfl rfl (Val.of hσ rfl rfl) rfl rfl ( AN.step hx rfl rfl rfl (Val.of hσ rfl rfl) rfl rfl ( AN.step hx rfl rfl rfl (Val.of hσ rfl rfl) rfl rfl ( AN.step hx rfl rfl rfl (Val.fits64 hσ rfl rfl (by first | omega | (simp at *; omega)) (by first | omega | (simp at *; omega))) rfl rfl ( AN.step hx rfl rfl rfl (Val.indexD hσ rfl rfl rfl rfl rfl rfl rfl rfl (by first | omega | (simp at *; omega)) (idx_get (by first | omega | (simp at *; omega)) (by first | omega | (simp at *; omega)))) rfl rfl ( AN.step hx rfl rfl rfl (Val.of hσ rfl rfl) rfl rfl ( AN.step hx rfl rfl rfl (Val.of hσ rfl rfl) rfl rfl ( AN.nil)))))))) rfl rfl ?_
 first | refine AOps.step (Val.pickT hσ rfl rfl rfl rfl rfl) rfl rfl rfl ?_ | refine AOps.step (Val.pickF hσ rfl rfl rfl rfl rfl) rfl rfl rfl ?_ | refine AOps.step (Val.pickB hσ rfl rfl rfl rfl rfl) rfl rfl rfl ?_
 refine jf4 17 1 2 3 rfl rfl rfl rfl ?_
 refine jn ?_
 refine AWP.cond hσ rfl rfl (fun hc17 => ?_) (fun hc17 => ?_)
 ·
  skip
  refine AWP.skip ?_
  refine AWP.block ?_
  refine AWP.region ?_
  refine jst hσ rfl rfl rfl rfl rfl ?_
  first | refine jfi hσ rfl rfl rfl rfl rfl ?_ | refine jvf hσ rfl rfl rfl rfl rfl ?_
  refine jst hσ rfl rfl rfl rfl rfl ?_
  refine jf4 3 17 1 2 rfl rfl rfl rfl ?_
  refine jn ?_
  rw [Bool.cond_false_right, Bool.and_eq_true, decide_eq_true_eq, decide_eq_true_eq] at hc17
  obtain ⟨k, hk⟩ : ∃ k, n = k + 1 := ⟨n - 1, by omega⟩
  subst hk
  have hk2 : ((k + 1 : Nat) : Int) - 1 = k := by omega
  rw [hk2] at hc17
  refine ⟨k, Ent.to ⟨rfl, rfl, by rw [hk2]; rfl, trivial⟩ rfl, ⟨by omega, ?_⟩, Nat.lt_succ_self k⟩
  rw [← hi.2, trim_succ (by omega) (by simpa using hc17.2)]
 ·
  skip
  refine AWP.exit ?_
  refine jsr ?_
  iterate 3 refine jst hσ rfl rfl rfl rfl rfl ?_
  have hd : trim (t.xs.take n) = t.xs.take n := trim_done hi.1 (by
   rw [Bool.cond_false_right] at hc17
   rcases Nat.eq_zero_or_pos n with h0 | h0
   ·
    exact .inl h0
   ·
    refine .inr (fun h9 => ?_)
    have e1 : ((n : Int) - 1).toNat = n - 1 := by omega
    rw [e1, h9] at hc17; simp at hc17; omega)
  have ht := hi.2
  rw [hd] at ht
  refine AOps.step ((Val.vif hσ rfl rfl ⟨by omega, by simp; omega⟩).cast (v' := aints (trim t.xs)) (by rw [← ht]; simp [List.map_take])) rfl rfl rfl ?_
  refine jst hσ rfl rfl rfl rfl rfl ?_
  refine jf6 24 23 17 1 2 3 rfl rfl rfl rfl rfl rfl ?_
  refine AOps.heap (HS.storeBox hσ rfl rfl rfl rfl rfl rfl rfl rfl rfl rfl rfl) rfl ?_
  refine jf4 17 1 2 3 rfl rfl rfl rfl ?_
  refine jns ?_
  refine jst hσ rfl rfl rfl rfl rfl ?_
  refine AOps.heap (HS.storeBox hσ rfl rfl rfl rfl rfl rfl rfl rfl rfl rfl rfl) rfl ?_
  refine jn ?_
  refine AWP.ret ?_
  refine ⟨.inl rfl, _, Ent.refl, _, rfl, ?_⟩
  exact .v (.agg (VMs.self rfl))
theorem dotG_all {f : Tm → Int} : ∀ {ts : List Tm} {ms : List Int}, ts.length ≤ ms.length → dotG f (ts.take ts.length) (ms.take ts.length) = dotG f ts ms
  | [], ms, _ => by cases ms <;> simp [dotG]
  | t :: ts, [], h => by simp at h
  | t :: ts, m :: ms, h => by
    have := dotG_all (f := f) (ts := ts) (ms := ms) (by simpa using h)
    simp only [List.length_cons, List.take_succ_cons, dotG] at this ⊢
    rw [this]
theorem colsL_all {ts : List Tm} {ms : List Int} (h : ts.length ≤ ms.length) : colsL (ts.take ts.length) (ms.take ts.length) = colsL ts ms := by
  unfold colsL
  apply List.map_congr_left
  intro k _
  exact dotG_all h
theorem c201 {L : Nat} (h1 : 4096 ≤ L) (h2 : L ≤ 1073741824) {ts : List Tm} {ms : List Int} (hc : CtxOk ts) (hm : ms.all num = true) (hle : ts.length ≤ ms.length) : MC Tryz.prog L 78 [atms ts, aints ms] [] (Plain (aTm' (combI ts ms))) := by
 refine MC.data ?_
 have hσ := SGok (nt := 55) h1 (Nat.le_trans h2 (by decide))
 refine MC.body hσ Tryz.func78 (by kernel_rfl) rfl rfl (Nat.le_of_ble_eq_true rfl) (fun hF => ?_)
 have hl : ms.length ≤ L := by simpa [As.fact, A.fact, M.fact, D.fact, Ds.fact] using hF.2.1.1
 have hlc := hc.len
 refine jsr ?_
 refine AOps.heap (HS.alloc hσ rfl rfl rfl rfl rfl) rfl ?_
 refine jns ?_
 refine AOps.heap (HS.make hσ rfl rfl rfl rfl rfl rfl rfl rfl rfl (by first | omega | (simp at *; omega)) (by first | omega | (simp at *; omega)) (by first | omega | (simp at *; omega)) (by first | omega | (dsimp only; omega) | (simp only [List.length_map, beq_iff_eq, decide_eq_true_eq, decide_eq_false_iff_not, Bool.not_eq_true', Bool.not_eq_false', Bool.not_true, Bool.not_false, Int.not_lt, Int.not_le] at *; omega)) (by first | omega | (simp at *; omega)) rfl rfl rfl) rfl ?_
 refine jst hσ rfl rfl rfl rfl rfl ?_
 refine jf4 11 4 0 1 rfl rfl rfl rfl ?_
 refine AOps.heap (HS.alloc hσ rfl rfl rfl rfl rfl) rfl ?_
 refine AOps.heap (HS.storeBox hσ rfl rfl rfl rfl rfl rfl rfl rfl rfl rfl rfl) rfl ?_
 refine jn ?_
 refine AWP.seq ?_
 refine jsr ?_
 refine jst hσ rfl rfl rfl rfl rfl ?_
 first | refine jle hσ rfl rfl rfl rfl rfl rfl rfl rfl rfl rfl rfl ?_ | refine jst hσ rfl rfl rfl rfl rfl ?_ | refine jvf hσ rfl rfl rfl rfl rfl ?_
 refine jst hσ rfl rfl rfl rfl rfl ?_
 refine jn ?_
 refine AWP.block ?_
 refine AWP.loopP (X := Nat) (fun i => ⟨[(1, aints ms), (4, .c (.pt 4 0 0)), (5, .c (.pt 5 0 0)), (12, atms ts), (13, eI ts.length), (14, eI i)], [(4, .box [.d (.int .i64 0), .d .nils]), (5, .box [.d (.int .i64 (dotG Tm.c (ts.take i) (ms.take i))), .rs 10 0 10]), (10, nrow (colsL (ts.take i) (ms.take i)))]⟩) (fun i => i ≤ ts.length) (fun i => ts.length - i) 0 (Ent.to ⟨rfl, rfl, rfl, rfl, rfl, rfl, trivial⟩ rfl) ?_ (fun i hi => ?_)
 ·
  exact Nat.zero_le _
 refine jsr ?_
 refine jst hσ rfl rfl rfl rfl rfl ?_
 refine jn ?_
 refine AWP.seq ?_
 refine AWP.cond hσ rfl rfl (fun hc15 => ?_) (fun hc15 => ?_)
 ·
  try simp only [jcs] at hc15
  refine AWP.skip ?_
  refine AWP.seq ?_
  refine AWP.block ?_
  refine jsr ?_
  refine jst hσ rfl rfl rfl rfl rfl ?_
  first | refine jin hσ rfl rfl rfl rfl rfl rfl rfl rfl rfl rfl rfl ?_ | refine jix hσ rfl rfl rfl rfl rfl rfl rfl rfl rfl rfl rfl ?_ | refine jvf hσ rfl rfl rfl rfl rfl ?_
  refine jst hσ rfl rfl rfl rfl rfl ?_
  refine jf9 18 16 15 1 4 5 12 13 14 rfl rfl rfl rfl rfl rfl rfl rfl rfl ?_
  refine AOps.heap (HS.alloc hσ rfl rfl rfl rfl rfl) rfl ?_
  refine jst hσ rfl rfl rfl rfl rfl ?_
  refine jf10 6 7 18 15 1 4 5 12 13 14 rfl rfl rfl rfl rfl rfl rfl rfl rfl rfl ?_
  refine AOps.heap (HS.storeBox hσ rfl rfl rfl rfl rfl rfl rfl rfl rfl rfl rfl) rfl ?_
  refine jn ?_
  refine AWP.seq ?_
  have hi0 := hi
  have hts := Small.of (hc.get (show i < ts.length by omega))
  have hd1 := dotG_in (f := Tm.c) (ts := ts) (ms := ms) (fun t ht => (Small.of (hc.ok t ht)).c) hm hi (by omega)
  have hd2 := dotG_succ (f := Tm.c) (ts := ts) (ms := ms) (i := i) (by omega) (by omega)
  have hmi : num (ms.getD i default) = true := by rw [getD_lt (by omega)]; exact List.all_eq_true.1 hm _ (List.getElem_mem _)
  have hmu := mul_num hmi hts.c
  refine AWP.drawR hσ _ [_, _, _, _, _, _, _, _, _, _, _, _] [⟨[], 0, 0, none⟩, ⟨[0], 0, 0, none⟩, ⟨[], 0, 0, none⟩, ⟨[], 0, 0, none⟩, ⟨[2, 3], 0, 0, none⟩, ⟨[2, 3, 4], 0, 0, none⟩, ⟨[], 0, 0, none⟩, ⟨[6], 0, 0, none⟩, ⟨[2, 3, 4, 5, 6, 7], 0, 0, none⟩, ⟨[0, 1, 2, 3, 4, 5, 6, 7, 8], 0, 0, none⟩, ⟨[0, 1, 2, 3, 4, 5, 6, 7, 8, 9], 0, 0, none⟩, ⟨[0, 1, 2, 3, 4, 5, 6, 7, 8, 9, 10], 0, 0, some 0⟩] [11] [_, _] rfl rfl (by decide) (by decide) (by kernel_rfl) (And.intro (Val.of hσ rfl rfl) (And.intro (Val.of hσ rfl rfl) (And.intro (Val.of hσ rfl rfl) (And.intro (Val.of hσ rfl rfl) (And.intro (Val.indexN hσ rfl rfl rfl rfl rfl rfl rfl rfl (idxN (by first | omega | (simp at *; omega)))) (And.intro (Val.of hσ rfl rfl) (And.intro (Val.of hσ rfl rfl) (And.intro (Val.of hσ rfl rfl) (And.intro (Val.fits64 hσ rfl rfl (by first | omega | (simp at *; omega)) (by first | omega | (simp at *; omega))) (And.intro (Val.fits64 hσ rfl rfl (by first | omega | (simp at *; omega)) (by first | omega | (simp at *; omega))) (And.intro (Val.of hσ rfl rfl) (And.intro (Eff.storeBox hσ rfl rfl rfl rfl rfl rfl rfl rfl rfl rfl rfl rfl rfl) trivial)))))))))))) ?_
  refine AWP.forget [(6, _), (7, _), (18, _), (15, _), (1, _), (4, _), (5, _), (12, _), (13, _), (14, _)] ⟨rfl, rfl, rfl, rfl, rfl, rfl, rfl, rfl, rfl, rfl, trivial⟩ ?_
  refine jnw ?_
  refine jsr ?_
  iterate 2 refine jst hσ rfl rfl rfl rfl rfl ?_
  first | refine jle hσ rfl rfl rfl rfl rfl rfl rfl rfl rfl rfl rfl ?_ | refine jst hσ rfl rfl rfl rfl rfl ?_ | refine jvf hσ rfl rfl rfl rfl rfl ?_
  refine jst hσ rfl rfl rfl rfl rfl ?_
  refine jn ?_
  refine AWP.block ?_
  refine AWP.loopP (X := Nat) (fun j => ⟨[(1, aints ms), (4, .c (.pt 4 0 0)), (5, .c (.pt 5 0 0)), (12, atms ts), (13, eI ts.length), (14, eI i), (6, eI i), (31, aints (ts.getD i default).xs), (32, eI (ts.getD i default).xs.length), (33, eI j)], [(4, .box [.d (.int .i64 0), .d .nils]), (5, .box [.d (.int .i64 (dotG Tm.c (ts.take i) (ms.take i) + ms.getD i default * (ts.getD i default).c)), .rs 10 0 10]), (10, nrow (part ts ms i j))]⟩) (fun j => j ≤ (ts.getD i default).xs.length) (fun j => (ts.getD i default).xs.length - j) 0 (((Ent.sel [4, 5, 10] (e' := [(1, _), (4, _), (5, _), (12, _), (13, _), (14, _), (6, _), (31, _), (32, _), (33, _)]) rfl rfl ⟨rfl, rfl, rfl, rfl, rfl, rfl, rfl, rfl, rfl, rfl, trivial⟩ rfl)).trans (Ent.to ⟨rfl, rfl, rfl, rfl, rfl, rfl, rfl, rfl, rfl, rfl, trivial⟩ (by rw [part_zero]; rfl))) ?_ (fun j hi => ?_)
  ·
   exact Nat.zero_le _
  refine jsr ?_
  refine jst hσ rfl rfl rfl rfl rfl ?_
  refine jn ?_
  refine AWP.seq ?_
  refine AWP.cond hσ rfl rfl (fun hc34 => ?_) (fun hc34 => ?_)
  ·
   try simp only [jcs] at hc34
   refine AWP.skip ?_
   refine AWP.seq ?_
   refine AWP.block ?_
   refine jsr ?_
   refine jst hσ rfl rfl rfl rfl rfl ?_
   first | refine jin hσ rfl rfl rfl rfl rfl rfl rfl rfl rfl rfl rfl ?_ | refine jix hσ rfl rfl rfl rfl rfl rfl rfl rfl rfl rfl rfl ?_ | refine jvf hσ rfl rfl rfl rfl rfl ?_
   iterate 3 refine jst hσ rfl rfl rfl rfl rfl ?_
   refine AOps.forget [(9, _), (8, _), (34, _), (1, _), (4, _), (5, _), (12, _), (13, _), (14, _), (6, _), (31, _), (32, _), (33, _)] ⟨rfl, rfl, rfl, rfl, rfl, rfl, rfl, rfl, rfl, rfl, rfl, rfl, rfl, trivial⟩ ?_
   refine jn ?_
   have hjl : j < 10 := by have := ok_len (hc.get (show i < ts.length by omega)); omega
   have hpj := part_get (ts := ts) (ms := ms) (i := i) hjl
   have hps := part_succ (ts := ts) (ms := ms) (i := i) hjl
   have hpl := part_length (ts := ts) (ms := ms) (i := i) (j := j)
   have hd3 := dotG_in (f := colF j) (ts := ts) (ms := ms) (fun t ht => (Small.of (hc.ok t ht)).get j) hm hi0 (by omega)
   have hmx := mul_num hmi (hts.get j)
   rw [show (ts.getD i default).xs.getD j 0 = (ts.getD i default).xs.getD j default from rfl] at hmx
   refine AWP.drawR hσ _ [_, _, _, _, _, _, _, _, _, _, _, _, _, _] [⟨[], 0, 0, none⟩, ⟨[0], 0, 0, none⟩, ⟨[], 0, 0, none⟩, ⟨[0, 1, 2], 0, 0, none⟩, ⟨[0, 1, 2, 3], 0, 0, none⟩, ⟨[], 0, 0, none⟩, ⟨[], 0, 0, none⟩, ⟨[5, 6], 0, 0, none⟩, ⟨[5, 6, 7], 0, 0, none⟩, ⟨[], 0, 0, none⟩, ⟨[5, 6, 7, 8, 9], 0, 0, none⟩, ⟨[0, 1, 2, 3, 4, 5, 6, 7, 8, 9, 10], 0, 0, none⟩, ⟨[0, 1, 2, 3, 4, 5, 6, 7, 8, 9, 10, 11], 0, 0, none⟩, ⟨[0, 1, 2, 3, 4, 5, 6, 7, 8, 9, 10, 11, 12], 0, 0, some 0⟩] [13] [_, _] rfl rfl (by decide) (by decide) (by kernel_rfl) (And.intro (Val.of hσ rfl rfl) (And.intro (Val.of hσ rfl rfl) (And.intro (Val.of hσ rfl rfl) (And.intro (Val.vif hσ rfl rfl (by first | omega | (simp at *; omega))) (And.intro (Val.loadRow hσ (ex := [.int .i64 ((part ts ms i j).getD j default)]) rfl rfl rfl rfl (idx0 (by omega)) rfl) (And.intro (Val.of hσ rfl rfl) (And.intro (Val.of hσ rfl rfl) (And.intro (Val.indexN hσ rfl rfl rfl rfl rfl rfl rfl rfl (idxN (by first | omega | (simp at *; omega)))) (And.intro (Val.of hσ rfl rfl) (And.intro (Val.of hσ rfl rfl) (And.intro (Val.fits64 hσ rfl rfl (by first | omega | (simp at *; omega)) (by first | omega | (simp at *; omega))) (And.intro (Val.fits64 hσ rfl rfl (by first | omega | (simp at *; omega)) (by first | omega | (simp at *; omega))) (And.intro (Val.vif hσ rfl rfl (by first | omega | (simp at *; omega))) (And.intro (Eff.storeRow (ex := [.int .i64 ((part ts ms i j).getD j default)]) (xs' := (part ts ms i (j + 1)).map (fun n => [D.int .i64 n])) hσ rfl rfl rfl rfl rfl rfl rfl rfl rfl rfl rfl rfl rfl rfl rfl (idx0 (by omega)) (by rw [← hps, List.map_set]; simp only [Int.toNat_natCast, Nat.zero_add]; rfl) rfl) trivial)))))))))))))) ?_
   refine AWP.forget [(34, _), (1, _), (4, _), (5, _), (12, _), (13, _), (14, _), (6, _), (31, _), (32, _), (33, _)] ⟨rfl, rfl, rfl, rfl, rfl, rfl, rfl, rfl, rfl, rfl, rfl, trivial⟩ ?_
   refine jnw ?_
   refine AWP.region ?_
   first | refine jfi hσ rfl rfl rfl rfl rfl ?_ | refine jvf hσ rfl rfl rfl rfl rfl ?_
   refine jst hσ rfl rfl rfl rfl rfl ?_
   refine jn ?_
   refine ⟨j + 1, Ent.to ⟨rfl, rfl, rfl, rfl, rfl, rfl, rfl, rfl, rfl, rfl, trivial⟩ rfl, by omega, by omega⟩
  ·
   try simp only [jcs] at hc34
   refine AWP.exit ?_
   refine AWP.region ?_
   first | refine jfi hσ rfl rfl rfl rfl rfl ?_ | refine jvf hσ rfl rfl rfl rfl rfl ?_
   refine jst hσ rfl rfl rfl rfl rfl ?_
   refine jn ?_
   refine ⟨i + 1, ((Ent.sel [4, 5, 10] (e' := [(1, _), (4, _), (5, _), (12, _), (13, _), (14, _)]) rfl rfl ⟨rfl, rfl, rfl, rfl, rfl, rfl, trivial⟩ rfl)).trans (Ent.to ⟨rfl, rfl, rfl, rfl, rfl, rfl, trivial⟩ ?_), by omega, by omega⟩
   rw [hd2, ← part_all (j := j) (by omega) (by omega) (by omega)]; rfl
 ·
  try simp only [jcs] at hc15
  refine AWP.exit ?_
  refine jsr ?_
  obtain rfl : i = ts.length := by omega
  have hcl := colsL_length (ts := ts.take ts.length) (ms := ms.take ts.length)
  refine AOps.to (Ent.freeze 10 (e' := [(5, _), (4, _)]) rfl (.cons rfl (.keep rfl) (.cons rfl (.keep rfl) .nil)) (.cons rfl (.box (.cons (.keep rfl) (.cons (.keep rfl) .nil))) (.cons rfl (.box (.cons (.keep rfl) (.cons (.row rfl (by rw [List.length_map, hcl])) .nil))) (.skip .nil)))) ?_
  refine jst hσ rfl rfl rfl rfl rfl ?_
  refine AOps.plainD hσ rfl rfl rfl rfl (c210 (t := ⟨dotG Tm.c (ts.take ts.length) (ms.take ts.length), colsL (ts.take ts.length) (ms.take ts.length)⟩) h1 h2) (VAs.self rfl) rfl rfl rfl rfl (B0 := 55000) rfl rfl ?_
  refine jf3 54 5 4 rfl rfl rfl ?_
  refine AOps.heap (HS.storeBox hσ rfl rfl rfl rfl rfl rfl rfl rfl rfl rfl rfl) rfl ?_
  refine jn ?_
  refine AWP.ret ?_
  refine ⟨.inl rfl, _, Ent.refl, _, rfl, ?_⟩
  have e1 : dotG Tm.c (ts.take ts.length) (ms.take ts.length) = dotG Tm.c ts ms := dotG_all hle
  have e2 : colsL (ts.take ts.length) (ms.take ts.length) = colsL ts ms := colsL_all hle
  rw [e1, e2]
  exact .v (.agg (VMs.self rfl))
end Go.Al
