/- Contracts of the program's functions for terms; the types of the arguments. -/
import Derived.Test.YtnepkogijffmjaaGreatE
import Derived.Test.YtnepkogijffmjaaGreatRows
namespace Go.Al
set_option linter.unusedVariables false
/-! ### The contexts of a proof, as the reference computes them -/
structure CS where
  all : List (List Tm)
  has : List Bool
  right : List Bool
  flaw : Int
def fineF (p : List Nd) (k : Nat) (z : CS) : Bool := if k = 0 then true else z.right.getD (par p k k).1.toNat default
def ownF (p : List Nd) (c0 : List Tm) (k : Nat) (z : CS) : List Tm := if k = 0 then c0 else if fineF p k z = true then belowS (p.getD (par p k k).1.toNat default) (z.all.getD (par p k k).1.toNat default) (par p k k).2 else []
def rightF (p : List Nd) (c0 : List Tm) (k : Nat) (z : CS) : Bool := fineF p k z && rightB (p.getD k default) (ownF p c0 k z)
def csStep (p : List Nd) (c0 : List Tm) (k : Nat) (z : CS) : CS := ⟨z.all ++ [ownF p c0 k z], z.has ++ [fineF p k z], z.right ++ [rightF p c0 k z], if (fineF p k z && !rightF p c0 k z) && decide (z.flaw < 0) then (k : Int) else z.flaw⟩
def csRun (p : List Nd) (c0 : List Tm) : Nat → CS
  | 0 => ⟨[], [], [], -1⟩
  | k + 1 => csStep p c0 k (csRun p c0 k)
structure CSok (p : List Nd) (k : Nat) (z : CS) : Prop where
  all : z.all.length = k
  has : z.has.length = k
  right : z.right.length = k
  flaw : -1 ≤ z.flaw ∧ z.flaw < k
  ctx : ∀ j, j < k → z.has.getD j default = true → CtxOk (z.all.getD j default)
  good : ∀ j, j < k → z.right.getD j default = true → z.has.getD j default = true ∧ rightB (p.getD j default) (z.all.getD j default) = true
abbrev cL (c : List Tm) : List D := [tms c]
abbrev bL (b : Bool) : List D := [.bool b]
abbrev ctxsD (cs : List (List Tm)) : D := .slc 1 (cs.map cL)
abbrev boolsD (bs : List Bool) : D := .slc 1 (bs.map bL)
structure Con where
  all : List (List Tm)
  has : List Bool
  flaw : Int
  ok : Bool
def conS (s : Sq) (p : List Nd) : Con := if (oppT s.goal).2 = true then ⟨(csRun p (ctxS s).1 p.length).all, (csRun p (ctxS s).1 p.length).has, (csRun p (ctxS s).1 p.length).flaw, true⟩ else ⟨[], [], 0, false⟩
end Go.Al
namespace Go.Al
open Go.Proofs
set_option linter.unusedVariables false
set_option linter.unusedSimpArgs false
set_option maxRecDepth 10000
end Go.Al
namespace Go.Al
open Go.Proofs
set_option linter.unusedVariables false
set_option linter.unusedSimpArgs false
set_option maxRecDepth 10000
theorem g2 {a b : Bool} : (bif !a then true else !b) = !(a && b) := by cases a <;> cases b <;> rfl
def inK (k : Int) (p : List Nd) : Bool := decide (0 ≤ k) && decide (k ≤ (p.length : Int) - 1)
def ctxAtS (s : Sq) (p : List Nd) (k : Int) : List Tm × Bool := if (seqB s && isB p && inK k p) = true then (if ((conS s p).ok && (conS s p).has.getD k.toNat default) = true then ((conS s p).all.getD k.toNat default, true) else ([], false)) else ([], false)
def chkS (s : Sq) (p : List Nd) : Bool := (seqB s && isB p) && ((conS s p).ok && decide ((conS s p).flaw < 0))
end Go.Al
namespace Go.Al
open Go.Proofs
set_option linter.unusedVariables false
set_option linter.unusedSimpArgs false
set_option maxRecDepth 10000
def muls (f : Int → Bool) (ms : List Int) (n : Nat) (bs : List Bool) : Nat → List Bool
  | 0 => bs
  | j + 1 => if (f (ms.getD j default) && decide (j < n)) = true then (muls f ms n bs j).set j true else muls f ms n bs j
def factB (x : Nd) (n : Nat) (bs : List Bool) : List Bool := if x.kind = 3 ∧ x.fact < n then bs.set x.fact.toNat true else bs
def usedN (f : Int → Bool) (p : List Nd) (n : Nat) : Nat → List Bool
  | 0 => List.replicate n false
  | i + 1 => muls f (p.getD i default).mul n (factB (p.getD i default) n (usedN f p n i)) (p.getD i default).mul.length
abbrev brow (bs : List Bool) : B := .row true 1 (bs.map bL)
abbrev psv : Int → Bool := fun m => decide (0 < m)
abbrev nz : Int → Bool := fun m => !decide (m = 0)
def idxs (bs : List Bool) : Nat → List Int
  | 0 => []
  | i + 1 => if bs.getD i default = true then idxs bs i ++ [(i : Int)] else idxs bs i
end Go.Al
namespace Go.Al
open Go.Proofs
set_option linter.unusedVariables false
set_option linter.unusedSimpArgs false
set_option maxRecDepth 10000
def usedFactsS (s : Sq) (p : List Nd) : List Int × Bool := if chkS s p = true then (idxs (usedN psv p (s.facts.length + 1) p.length) (s.facts.length + 1), true) else ([], false)
abbrev resU (r : List Int × Bool) : A := .tup [aints r.1, eB r.2]
abbrev sqs (ss : List Sq) : D := .slc 3 (ss.map Sq.cells)
abbrev asqs (ss : List Sq) : A := .c (.d (sqs ss))
abbrev ndC (p : List Nd) : List D := [nds p]
abbrev ndss (ps : List (List Nd)) : D := .slc 1 (ps.map ndC)
abbrev andss (ps : List (List Nd)) : A := .c (.d (ndss ps))
def provedS (ss : List Sq) (ps : List (List Nd)) : Bool := decide (ps.length = ss.length) && (List.range ss.length).all fun j => chkS (ss.getD j default) (ps.getD j default)
def areS (ss : List Sq) (ps : List (List Nd)) : Bool := ss.all seqB && (decide ((ss.length : Int) ≤ 60) && provedS ss ps)
end Go.Al
namespace Go.Al
open Go.Proofs
set_option linter.unusedVariables false
set_option linter.unusedSimpArgs false
set_option maxRecDepth 10000
abbrev combI (ts : List Tm) (ms : List Int) : Tm := ⟨dotG Tm.c ts ms, trim (colsL ts ms)⟩
abbrev oppI (t : Tm) : Tm := ⟨dotG Tm.c [t] [-1] - 1, trim (colsL [t] [-1])⟩
def closesI (ctx : List Tm) (ms : List Int) : Bool := decide (ms.length = ctx.length) && (decide ((trim (colsL ctx ms)).length = 0) && decide (dotG Tm.c ctx ms < 0))
def ctxI (s : Sq) : List Tm × Bool := if (seqB s && (oppI s.goal).ok) = true then (s.facts ++ [oppI s.goal], true) else ([], false)
end Go.Al
namespace Go.Al
open Go.Proofs
set_option linter.unusedVariables false
set_option linter.unusedSimpArgs false
set_option maxRecDepth 10000
theorem c147 {L : Nat} (h1 : 4096 ≤ L) (h2 : L ≤ 1073741824) {n : Int} : MC Tryz.prog L 80 [eI n] [] (Plain (eI n)) := by
 refine MC.alone ?_ rfl
 have hσ := SGok (nt := 4) h1 (Nat.le_trans h2 (by decide))
 refine MC.body hσ Tryz.func80 (by kernel_rfl) rfl rfl (Nat.le_of_ble_eq_true rfl) (fun hF => ?_)
 refine jsr ?_
 refine jst hσ rfl rfl rfl rfl rfl ?_
 refine jns ?_
 iterate 2 refine jst hσ rfl rfl rfl rfl rfl ?_
 refine jn ?_
 refine AWP.ret ?_
 refine ⟨.inl rfl, _, Ent.refl, _, rfl, ?_⟩
 first | rfl | skip
theorem c90 {L : Nat} (h1 : 4096 ≤ L) (h2 : L ≤ 1073741824) {k : Int} {n : Nat} (hn : n ≤ 1073741824) : MC Tryz.prog L 77 [eI k, eI n] [] (Plain (eB (inB 0 ((n : Int) - 1) k))) := by
 refine MC.alone ?_ rfl
 have hσ := SGok (nt := 10) h1 (Nat.le_trans h2 (by decide))
 refine MC.body hσ Tryz.func77 (by kernel_rfl) rfl rfl (Nat.le_of_ble_eq_true rfl) (fun hF => ?_)
 refine jsr ?_
 refine jst hσ rfl rfl rfl rfl rfl ?_
 refine jns ?_
 iterate 2 refine jst hσ rfl rfl rfl rfl rfl ?_
 refine AOps.lone hσ rfl rfl rfl rfl (c147 (n := n) h1 h2) (VAs.self rfl) rfl rfl rfl rfl rfl (B0 := 8000) rfl ?_
 first | refine jfi hσ rfl rfl rfl rfl rfl ?_ | refine jvf hσ rfl rfl rfl rfl rfl ?_
 refine AOps.lone hσ rfl rfl rfl rfl (c111 h1 h2) (VAs.self rfl) rfl rfl rfl rfl rfl (B0 := 10000) rfl ?_
 refine jst hσ rfl rfl rfl rfl rfl ?_
 refine jn ?_
 refine AWP.ret ?_
 refine ⟨.inl rfl, _, Ent.refl, _, rfl, ?_⟩
 first | rfl | skip
end Go.Al
namespace Go.Al
open Go.Proofs
set_option linter.unusedVariables false
set_option linter.unusedSimpArgs false
set_option maxRecDepth 10000
def flr (c g : Int) : Int := if c.tmod g < 0 then c.tdiv g - 1 else c.tdiv g
abbrev tiI (t : Tm) : Tm := ⟨flr t.c (gcdL t.xs), t.xs.map fun x => x.tdiv (gcdL t.xs)⟩
def tightI (t : Tm) : Tm × Bool := if gcdL t.xs < 2 then (⟨0, []⟩, false) else (tiI t, true)
def kidsN (n : Nd) : Int := if ndB n = true then (if n.kind = 1 then 0 else if n.kind = 2 then 2 else 1) else -1
theorem c148o {L : Nat} (h1 : 4096 ≤ L) (h2 : L ≤ 1073741824) {t : Tm} : MC Tryz.prog L 62 [aTm' t] [] (Rows (.agg [.d (.int .i64 t.c), .rs 0 0 t.xs.length]) [nrow t.xs]) := by
 refine MC.rows ?_
 have hσ := SGok (nt := 9) h1 (Nat.le_trans h2 (by decide))
 refine MC.body hσ Tryz.func62 (by kernel_rfl) rfl rfl (Nat.le_of_ble_eq_true rfl) (fun hF => ?_)
 refine jsr ?_
 refine AOps.heap (HS.box hσ rfl rfl rfl rfl rfl rfl rfl) rfl ?_
 refine AOps.heap (HS.alloc hσ rfl rfl rfl rfl rfl) rfl ?_
 refine jn ?_
 refine AWP.seq ?_
 refine AWP.drawR hσ _ [_, _, _, _, _, _, _] [⟨[], 0, 1, none⟩, ⟨[0], 0, 1, none⟩, ⟨[], 0, 0, none⟩, ⟨[2], 0, 0, none⟩, ⟨[2, 3], 0, 0, some 0⟩, ⟨[0, 1, 2, 3, 4], 1, 1, none⟩, ⟨[0, 1, 2, 3, 4, 5], 0, 0, some 1⟩] [4, 6] [_, _, _] rfl rfl (by decide) (by decide) (by kernel_rfl) (And.intro (And.intro (Val.of hσ rfl rfl) (Val.of hσ rfl rfl)) (And.intro (And.intro (Val.of hσ rfl rfl) (Val.of hσ rfl rfl)) (And.intro (Val.of hσ rfl rfl) (And.intro (Val.of hσ rfl rfl) (And.intro (Eff.rows hσ (B0 := 8000) rfl rfl rfl rfl (c158 (xs := t.xs) h1 h2) (VAs.self rfl) rfl rfl rfl rfl rfl) (And.intro (Val.of hσ rfl rfl) (And.intro (Eff.storeBox hσ rfl rfl rfl rfl rfl rfl rfl rfl rfl rfl rfl rfl rfl) trivial))))))) ?_
 refine AWP.ret ?_
 refine ⟨.inl rfl, _, Ent.refl, _, rfl, [8000], by decide, rfl, rfl, rfl⟩
def mkq (xs : List Int) (g : Int) (i : Nat) : List Int := (xs.take i).map (fun x => x.tdiv g) ++ xs.drop i
end Go.Al
namespace Go.Al
open Go.Proofs
set_option linter.unusedVariables false
set_option linter.unusedSimpArgs false
set_option maxRecDepth 10000
def iterE (f : Nat → Option (Nat × Int)) : Nat → Nat → Int → Option (Nat × Int)
  | 0, k, d => some (k, d)
  | q + 1, k, d => match f k with
    | none => none
    | some (k', b) => iterE f q k' (if b > d then b else d)
def behF : Nat → List Nd → Nat → Option (Nat × Int)
  | 0, _, _ => none
  | n + 1, p, k => if p.length ≤ k then none else if kidsN (p.getD k default) < 0 then none else
      (iterE (behF n p) (kidsN (p.getD k default)).toNat (k + 1) 0).map fun r => (r.1, r.2 + 1)
abbrev eN (r : Option (Nat × Int)) : Int := match r with | some (k, _) => k | none => 0
abbrev eD (r : Option (Nat × Int)) : Int := match r with | some (_, d) => d | none => 0
abbrev eO (r : Option (Nat × Int)) : Bool := match r with | some _ => true | none => false
abbrev resE (r : Option (Nat × Int)) : A := .tup [eI (eN r), eI (eD r), eB (eO r)]
def isI (p : List Nd) : Bool := decide ((p.length : Int) ≤ 60) && (eO (behF (p.length + 1) p 0) && decide (eN (behF (p.length + 1) p 0) = p.length))
end Go.Al
namespace Go.Al
open Go.Proofs
set_option linter.unusedVariables false
/-! ### Tightening, told in two ways -/
/-! ### The opposite, told in two ways -/
/-! ### Closing, told in two ways -/
/-! ### Proofs as trees -/
inductive Pf where
  | close (n : Nd)
  | tight (n : Nd) (a : Pf)
  | split (n : Nd) (a b : Pf)
def Pf.size : Pf → Nat
  | .close _ => 1
  | .tight _ a => 1 + a.size
  | .split _ a b => 1 + a.size + b.size
def Pf.At (p : List Nd) : Pf → Nat → Prop
  | .close n, k => p[k]? = some n ∧ ndB n = true ∧ n.kind = 1
  | .tight n a, k => p[k]? = some n ∧ ndB n = true ∧ n.kind = 3 ∧ a.At p (k + 1)
  | .split n a b, k => p[k]? = some n ∧ ndB n = true ∧ n.kind = 2 ∧ a.At p (k + 1) ∧ b.At p (k + 1 + a.size)
/-! ### The examination, told of the tree -/
structure Ex where
  es : List (Int × List Tm)
  flaw : Int
def tput : List (Int × List Tm) → Int → List Tm → List (Int × List Tm)
  | [], k, x => [(k, x)]
  | (j, y) :: r, k, x => if k = j then (k, x) :: r else (j, y) :: tput r k x
def tget : List (Int × List Tm) → Int → Option (List Tm)
  | [], _ => none
  | (j, x) :: r, k => if k = j then some x else tget r k
abbrev cm (es : List (Int × List Tm)) : List (Int × D) := es.map fun x => (x.1, tms x.2)
def Ex.put (e : Ex) (k : Nat) (c : List Tm) : Ex := { e with es := tput e.es k c }
def Ex.bad (e : Ex) (k : Nat) : Ex := if e.flaw < 0 then { e with flaw := k } else e
def splitI (n : Nd) (c : List Tm) : Bool := decide ((c.length : Int) < 20) && (oppI n.term).ok
def factI (n : Nd) (c : List Tm) : Bool := decide ((c.length : Int) < 20) && inB 0 ((c.length : Int) - 1) n.fact
def tiF (n : Nd) (c : List Tm) : Tm × Bool := tightI (c.getD n.fact.toNat default)
def exT : Pf → Nat → List Tm → Ex → Ex
  | .close n, k, c, e => if closesI c n.mul = true then e.put k c else (e.put k c).bad k
  | .tight n a, k, c, e => if (factI n c && (tiF n c).2) = true then exT a (k + 1) (c ++ [(tiF n c).1]) (e.put k c) else (e.put k c).bad k
  | .split n a b, k, c, e => if splitI n c = true then exT b (k + 1 + a.size) (c ++ [oppI n.term]) (exT a (k + 1) (c ++ [n.term]) (e.put k c)) else (e.put k c).bad k
end Go.Al
namespace Go.Al
open Go.Proofs
set_option linter.unusedVariables false
set_option linter.unusedSimpArgs false
set_option maxRecDepth 10000
abbrev xH (p : List Nd) (e : Ex) : List (Nat × B) := [(0, .box [.d (nds p), .mp 1, .d (.int .i64 e.flaw)]), (1, iMap (cm e.es))]
end Go.Al
namespace Go.Al
open Go.Proofs
set_option linter.unusedVariables false
/-! ### What both sides say of a tree is the same -/
def fl (b : Nat → Bool) : Nat → Nat → Int → Int
  | _, 0, f => f
  | k, n + 1, f => fl b (k + 1) n (if b k = true ∧ f < 0 then (k : Int) else f)
/-- The equations of the reference's lists. -/
structure Eqs (p : List Nd) (c0 : List Tm) (H : Nat → Bool) (A : Nat → List Tm) (R : Nat → Bool) : Prop where
  h0 : 0 < p.length → H 0 = true ∧ A 0 = c0
  h : ∀ j, 0 < j → j < p.length → H j = R (par p j j).1.toNat
  a : ∀ j, 0 < j → j < p.length → H j = true → A j = belowS (p.getD (par p j j).1.toNat default) (A (par p j j).1.toNat) (par p j j).2
  r : ∀ j, j < p.length → R j = (H j && rightB (p.getD j default) (A j))
/-! ### Parents in a tree -/
def tabl (H : Nat → Bool) (A : Nat → List Tm) (j : Nat) : Option (List Tm) := if H j = true then some (A j) else none
end Go.Al
namespace Go.Al
open Go.Proofs
set_option linter.unusedVariables false
set_option linter.unusedSimpArgs false
set_option maxRecDepth 10000
abbrev E0 (s : Sq) (t : Pf) : Ex := exT t 0 (ctxI s).1 ⟨[], -1⟩
theorem c91o {L : Nat} (h1 : 4096 ≤ L) (h2 : L ≤ 1073741824) {ts : List Tm} : MC Tryz.prog L 26 [atms ts] [] (Rows (.c (.rs 0 0 ts.length)) [trow ts]) := by
 refine MC.rows ?_
 have hσ := SGok (nt := 19) h1 (Nat.le_trans h2 (by decide))
 refine MC.body hσ Tryz.func26 (by kernel_rfl) rfl rfl (Nat.le_of_ble_eq_true rfl) (fun hF => ?_)
 have hl : ts.length ≤ L := by simpa [As.fact, A.fact, M.fact, D.fact, Ds.fact] using hF.1.1
 refine jsr ?_
 refine jst hσ rfl rfl rfl rfl rfl ?_
 refine jns ?_
 refine jst hσ rfl rfl rfl rfl rfl ?_
 refine jn ?_
 refine AWP.seq ?_
 refine jsr ?_
 refine jst hσ rfl rfl rfl rfl rfl ?_
 first | refine jle hσ rfl rfl rfl rfl rfl rfl rfl rfl rfl rfl rfl ?_ | refine jst hσ rfl rfl rfl rfl rfl ?_ | refine jvf hσ rfl rfl rfl rfl rfl ?_
 refine jst hσ rfl rfl rfl rfl rfl ?_
 refine jn ?_
 refine AWP.block ?_
 refine AWP.loopP (X := Nat) (fun i => ⟨[(3, .c (.rs 900 0 i)), (6, atms ts), (7, eI ts.length), (8, eI i)], [(900, trow (ts.take i))]⟩) (fun i => i ≤ ts.length) (fun i => ts.length - i) 0 ((Ent.nameNil 3 900 2 true rfl rfl).trans (Ent.to ⟨rfl, rfl, rfl, rfl, trivial⟩ rfl)) ?_ (fun i hi => ?_)
 ·
  exact Nat.zero_le _
 refine jsr ?_
 refine jst hσ rfl rfl rfl rfl rfl ?_
 refine jn ?_
 refine AWP.seq ?_
 refine AWP.cond hσ rfl rfl (fun hc9 => ?_) (fun hc9 => ?_)
 ·
  try simp only [jcs] at hc9
  refine AWP.skip ?_
  refine AWP.seq ?_
  refine AWP.block ?_
  refine jsr ?_
  first | refine jin hσ rfl rfl rfl rfl rfl rfl rfl rfl rfl rfl rfl ?_ | refine jix hσ rfl rfl rfl rfl rfl rfl rfl rfl rfl rfl rfl ?_ | refine jvf hσ rfl rfl rfl rfl rfl ?_
  refine jst hσ rfl rfl rfl rfl rfl ?_
  refine jf [11, 9, 3, 6, 7, 8] rfl ?_
  refine AOps.heap (HS.alloc hσ rfl rfl rfl rfl rfl) rfl ?_
  refine jnm ?_
  refine AOps.heap (HS.storeBox hσ rfl rfl rfl rfl rfl rfl rfl rfl rfl rfl rfl) rfl ?_
  refine jnm ?_
  refine jn ?_
  refine AWP.region ?_
  iterate 2 refine jst hσ rfl rfl rfl rfl rfl ?_
  refine AOps.rows hσ (B0 := 15000) rfl rfl rfl rfl (c148o (t := ts.getD i default) h1 h2) (VAs.self rfl) rfl rfl rfl rfl rfl rfl ?_
  refine jnm ?_
  refine jf [14, 12, 5, 11, 9, 3, 6, 7, 8] rfl ?_
  refine AOps.heap (HS.litAbs (ds := Tm.cells (ts.getD i default)) hσ rfl rfl rfl rfl rfl rfl rfl rfl rfl rfl (.d rfl (.rs rfl (List.length_map _).symm .nil)) rfl rfl rfl) rfl ?_
  refine jnm ?_
  refine jnm ?_
  refine jf [15, 12, 5, 11, 9, 3, 6, 7, 8] rfl ?_
  refine AOps.heap (HS.appMove (zs := (ts.take (i + 1)).map Tm.cells) (n := i + 1) hσ rfl rfl rfl rfl rfl rfl rfl rfl rfl rfl rfl rfl rfl rfl rfl rfl (.row rfl (by simp; omega)) rfl rfl (by decide) rfl (by simp; omega) (by simp; omega) (by rw [List.take_succ_eq_append_getElem (by omega), List.map_append, getD_lt (by omega)]; rfl) (by simp; omega)) rfl ?_
  refine jnm ?_
  refine jnm ?_
  refine jst hσ rfl rfl rfl rfl rfl ?_
  refine jf [3, 5, 11, 9, 6, 7, 8] rfl ?_
  refine jn ?_
  refine AWP.region ?_
  first | refine jfi hσ rfl rfl rfl rfl rfl ?_ | refine jvf hσ rfl rfl rfl rfl rfl ?_
  refine jst hσ rfl rfl rfl rfl rfl ?_
  refine jn ?_
  refine ⟨i + 1, ((Ent.sel [16] (e' := [(3, _), (6, _), (7, _), (8, _)]) rfl rfl ⟨rfl, rfl, rfl, rfl, trivial⟩ rfl).trans (Ent.sub2 16 900 rfl rfl)), by omega, by omega⟩
 ·
  try simp only [jcs] at hc9
  refine AWP.exit ?_
  refine jsr ?_
  iterate 2 refine jst hσ rfl rfl rfl rfl rfl ?_
  refine jn ?_
  refine AWP.ret ?_
  obtain rfl : i = ts.length := by omega
  rw [List.take_length]
  refine ⟨.inl rfl, _, Ent.refl, _, rfl, [900], by decide, rfl, rfl, rfl⟩
end Go.Al
namespace Go.Al
open Go.Proofs
set_option linter.unusedVariables false
set_option linter.unusedSimpArgs false
set_option maxRecDepth 10000
def areI (ss : List Sq) (ps : List (List Nd)) : Bool := decide ((ss.length : Int) ≤ 60) && provedS ss ps
end Go.Al
namespace Go.Al
open Go.Proofs
set_option linter.unusedVariables false
set_option linter.unusedSimpArgs false
set_option maxRecDepth 10000
set_option maxHeartbeats 4000000
theorem mark_idem : ∀ {k : Int} {xs : List Int}, markL mI oneI k (markL mI oneI k xs) = markL mI oneI k xs
  | _, [] => rfl
  | k, x :: xs => by
    show k :: markL mI oneI (k + 1) (markL mI oneI (k + 1) xs) = k :: markL mI oneI (k + 1) xs
    rw [mark_idem]
theorem held_marks (xs : List Int) (k : Int) : (if markL mI oneI k xs = markL mI oneI k (markL mI oneI k xs) then k + ((markL mI oneI k xs).length : Int) else -1) = k + xs.length := by
  rw [if_pos mark_idem.symm, markL_length]
theorem markL_getD {α : Type} [Inhabited α] {f : Int → α → α} {sz : α → Nat} : ∀ {l : List α} {k : Int} {i : Nat}, i < l.length → (markL f sz k l).getD i default = f (k + cnt sz (l.take i)) (l.getD i default)
  | [], _, _, h => by simp at h
  | a :: r, k, 0, _ => by simp [markL, cnt]
  | a :: r, k, i + 1, h => by
    have := markL_getD (f := f) (sz := sz) (l := r) (k := k + sz a) (i := i) (by simpa using h)
    simp only [markL, List.getD_cons_succ, List.take_succ_cons] at this ⊢
    rw [this]
    have e : k + (sz a : Int) + (cnt sz (r.take i) : Int) = k + (cnt sz (a :: r.take i) : Int) := by simp [cnt]; omega
    rw [e]
theorem c41 {L : Nat} (h1 : 4096 ≤ L) (h2 : L ≤ 1073741824) {ts : List Tm} {k : Int} (hk0 : 0 ≤ k) (hk1 : k + cnt nT ts ≤ 1073741824) : MC Tryz.prog L 36 [atms (markL mT nT k ts), eI k] [] (Plain (eI (k + cnt nT ts))) := by
 refine MC.alone ?_ rfl
 have hσ := SGok (nt := 31) h1 (Nat.le_trans h2 (by decide))
 refine MC.body hσ Tryz.func36 (by kernel_rfl) rfl rfl (Nat.le_of_ble_eq_true rfl) (fun hF => ?_)
 have hlm := markL_length (f := mT) (sz := nT) (k := k) (l := ts)
 have hl : (markL mT nT k ts).length ≤ L := by simpa [As.fact, A.fact, M.fact, D.fact, Ds.fact] using hF.1.1
 refine jsr ?_
 refine jst hσ rfl rfl rfl rfl rfl ?_
 refine jn ?_
 refine AWP.seq ?_
 refine jsr ?_
 refine jst hσ rfl rfl rfl rfl rfl ?_
 refine jn ?_
 refine AWP.block ?_
 refine AWP.loopP (X := Nat) (fun i => ⟨[(0, atms (markL mT nT k ts)), (1, eI (k + cnt nT (ts.take i))), (5, eI i)], []⟩) (fun i => i ≤ ts.length) (fun i => ts.length - i) 0 (Ent.env ⟨rfl, by simp [numbered, lk_cons, cnt], rfl, trivial⟩) ?_ (fun i hi => ?_)
 ·
  exact Nat.zero_le _
 refine AWP.seq ?_
 refine jsr ?_
 iterate 2 refine jst hσ rfl rfl rfl rfl rfl ?_
 first | refine jle hσ rfl rfl rfl rfl rfl rfl rfl rfl rfl rfl rfl ?_ | refine jst hσ rfl rfl rfl rfl rfl ?_ | refine jvf hσ rfl rfl rfl rfl rfl ?_
 refine jst hσ rfl rfl rfl rfl rfl ?_
 refine jf [9, 0, 1, 5] rfl ?_
 refine jn ?_
 refine AWP.cond hσ rfl rfl (fun hc9 => ?_) (fun hc9 => ?_)
 ·
  skip
  refine AWP.skip ?_
  refine AWP.seq ?_
  refine AWP.block ?_
  refine AWP.seq ?_
  refine jsr ?_
  have hil : i < ts.length := by have h9 := of_decide_eq_true hc9; omega
  have hg := markL_getD (f := mT) (sz := nT) (k := k) hil
  have hcs := cnt_succ (sz := nT) hil
  have hcl := cnt_le (sz := nT) (l := ts) (i := i + 1)
  rw [← getD_lt hil] at hcs
  obtain ⟨t, ht⟩ : ∃ t, t = ts.getD i default := ⟨_, rfl⟩
  rw [← ht] at hg hcs
  simp only [nT] at hcs
  obtain ⟨K, hK⟩ : ∃ K, K = k + (cnt nT (ts.take i) : Int) := ⟨_, rfl⟩
  rw [← hK] at hg ⊢
  iterate 2 refine jst hσ rfl rfl rfl rfl rfl ?_
  refine AOps.step ((Val.indexN hσ rfl rfl rfl rfl rfl rfl rfl rfl (idxN (by omega))).cast (v' := ptr (Tm.cells (mT K t))) (by rw [hg])) rfl rfl rfl ?_
  iterate 4 refine jst hσ rfl rfl rfl rfl rfl ?_
  refine jf [18, 9, 0, 1, 5] rfl ?_
  refine jn ?_
  refine AWP.cond hσ rfl rfl (fun hc18 => ?_) (fun hc18 => ?_)
  ·
   skip
   exact absurd hc18 (by simp)
  ·
   skip
   refine AWP.skip ?_
   refine jsr ?_
   refine jst hσ rfl rfl rfl rfl rfl ?_
   first | refine jfi hσ rfl rfl rfl rfl rfl ?_ | refine jvf hσ rfl rfl rfl rfl rfl ?_
   refine jst hσ rfl rfl rfl rfl rfl ?_
   refine jf [1, 18, 9, 0, 5] rfl ?_
   refine jns ?_
   iterate 2 refine jst hσ rfl rfl rfl rfl rfl ?_
   refine AOps.step ((Val.indexN hσ rfl rfl rfl rfl rfl rfl rfl rfl (idxN (by omega))).cast (v' := ptr (Tm.cells (mT K t))) (by rw [hg])) rfl rfl rfl ?_
   iterate 3 refine jst hσ rfl rfl rfl rfl rfl ?_
   refine jf [26, 25, 1, 18, 9, 0, 5] rfl ?_
   refine AOps.lone hσ rfl rfl rfl rfl ((c21 (xs := markL mI oneI (K + 1) t.xs) (k := K + 1) h1 h2 (by omega) (by omega)).plain (congrArg eI (held_marks t.xs (K + 1)))) (VAs.self rfl) rfl rfl rfl rfl rfl (B0 := 28000) rfl ?_
   refine jst hσ rfl rfl rfl rfl rfl ?_
   refine jf [1, 18, 9, 0, 5] rfl ?_
   refine jns ?_
   iterate 2 refine jst hσ rfl rfl rfl rfl rfl ?_
   refine jn ?_
   refine AWP.cond hσ rfl rfl (fun hc29 => ?_) (fun hc29 => ?_)
   ·
    skip
    exact absurd (of_decide_eq_true hc29) (by omega)
   ·
    skip
    refine AWP.skip ?_
    refine AWP.region ?_
    refine jst hσ rfl rfl rfl rfl rfl ?_
    first | refine jfi hσ rfl rfl rfl rfl rfl ?_ | refine jvf hσ rfl rfl rfl rfl rfl ?_
    refine jst hσ rfl rfl rfl rfl rfl ?_
    refine jf [5, 29, 28, 1, 18, 9, 0] rfl ?_
    refine jn ?_
    refine ⟨i + 1, Ent.env ⟨rfl, ?_, rfl, trivial⟩, by omega, by omega⟩
    rw [hcs]
    exact congrArg (fun z => some (eI z)) (by omega)
 ·
  skip
  refine AWP.exit ?_
  refine jsr ?_
  iterate 2 refine jst hσ rfl rfl rfl rfl rfl ?_
  refine jn ?_
  refine AWP.ret ?_
  refine ⟨.inl rfl, _, Ent.refl, _, rfl, ?_⟩
  have h9 := of_decide_eq_false hc9
  obtain rfl : i = ts.length := by omega
  rw [List.take_length]
end Go.Al
namespace Go.Al
open Go.Proofs
set_option linter.unusedVariables false
set_option linter.unusedSimpArgs false
theorem cnt_szs (ts : List Tm) : cnt nT ts = szs Tm.size ts := by
  unfold cnt szs
  induction ts with
  | nil => rfl
  | cons t r ih =>
    simp only [List.map_cons, List.sum_cons, List.length_cons] at ih ⊢
    have : nT t = 1 + Tm.size t := rfl
    omega
theorem szr_nonneg {left : Int} {n : Nat} (h : 0 ≤ szr left n) (h0 : 0 ≤ left) : (n : Int) ≤ left := by
  unfold szr at h
  split at h <;> omega
theorem fact_ints {L S : Nat} {xs : List Int} (h : D.fact L (ints xs)) (hl : xs.length ≤ S) : D.fact S (ints xs) := by
  simp only [D.fact, List.length_map, Dss.fact_map, Ds.fact] at h ⊢
  exact ⟨hl, h.2⟩
theorem sum_mem {α : Type} (f : α → Nat) : ∀ {xs : List α} {x : α}, x ∈ xs → f x ≤ (xs.map f).sum
  | y :: r, x, h => by
    simp only [List.map_cons, List.sum_cons]
    rcases List.mem_cons.1 h with rfl | h
    · omega
    · have := sum_mem f h; omega
theorem fact_tms {L S : Nat} {ts : List Tm} (h : D.fact L (tms ts)) (hl : szs Tm.size ts ≤ S) : D.fact S (tms ts) := by
  unfold szs at hl
  simp only [D.fact, List.length_map, Dss.fact_map] at h ⊢
  refine ⟨by omega, fun t ht => ?_⟩
  have h1 := h.2 t ht
  have h2 := sum_mem Tm.size ht
  have h3 : Tm.size t = t.xs.length := rfl
  exact ⟨h1.1, fact_ints h1.2.1 (by omega), trivial⟩
/-! ### What both sides answer -/
end Go.Al
/- What the laws of the certificates share: the types of their arguments; what came in reads as it did. -/
namespace Go.Proofs.YtnepkogijffmjaaGreat
open Go.ChangeShapes Go.WideShapes Go.ChangeAt Go.RowKit Go.Al
set_option linter.unusedVariables false
set_option maxRecDepth 10000

theorem ownK : ownKnob Tryz.prog.godebug = none := by kernel_rfl
theorem kidsK : Kids Tryz.prog (· < Tryz.prog.types.size) := kids_rows (by kernel_rfl) (by kernel_rfl)
theorem fullK : ∀ t e, t < Tryz.prog.types.size → Tryz.prog.underlying t = some (.slice e) → 0 < Tryz.prog.cellsOf e := slices_full_of Tryz.prog (by kernel_rfl)

/-! ### The types of the arguments -/
abbrev tyI : List Ty := [.int .i64]
abbrev tyT : List Ty := [.int .i64, .slc tyI]
abbrev tyQ : List Ty := [.slc tyT, .int .i64, .slc tyI]
abbrev tyN : List Ty := [.int .i64, .int .i64, .int .i64, .slc tyI, .slc tyI]
theorem of2 : TyOf Tryz.prog 2 tyI := .int Tryz.underlying2
theorem of26 : TyOf Tryz.prog 64 [.slc tyI] := .slc Tryz.underlying64 of2 (by kernel_rfl) (by decide)
theorem of63 : TyOf Tryz.prog 89 tyT := .struct Tryz.underlying89 (show FieldsAre Tryz.prog _ (tyI ++ ([.slc tyI] ++ [])) 0 from .cons rfl (by kernel_rfl) of2 (.cons rfl (by kernel_rfl) of26 .nil)) (by kernel_rfl)
theorem of22 : TyOf Tryz.prog 22 [.slc tyT] := .slc Tryz.underlying22 of63 (by kernel_rfl) (by decide)
theorem fits_int {d : D} (h : Fits (.int .i64) d) : ∃ n, d = .int .i64 n := by cases h; exact ⟨_, rfl⟩
theorem fits_all {α : Type} {es : List Ty} {g : α → List D} (hg : ∀ e, FitsL es e → ∃ a, e = g a) : ∀ {xs : List (List D)}, FitsA es xs → ∃ ys : List α, xs = ys.map g
  | _, .nil => ⟨[], rfl⟩
  | _, .cons h1 h2 => by
    obtain ⟨a, rfl⟩ := hg _ h1
    obtain ⟨ys, rfl⟩ := fits_all hg h2
    exact ⟨a :: ys, rfl⟩
theorem fits_ints {d : D} (h : Fits (.slc tyI) d) : ∃ xs, d = ints xs := by
  cases h with
  | slc h =>
    obtain ⟨xs, rfl⟩ := fits_all (g := fun n => [D.int .i64 n]) (fun e he => by
      cases he with
      | cons h1 h2 =>
        cases h2
        obtain ⟨n, rfl⟩ := fits_int h1
        exact ⟨n, rfl⟩) h
    exact ⟨xs, rfl⟩
theorem fits_term {e : List D} (h : FitsL tyT e) : ∃ t : Tm, e = t.cells := by
  cases h with
  | cons h1 h2 =>
    cases h2 with
    | cons h2 h3 =>
      cases h3
      obtain ⟨n, rfl⟩ := fits_int h1
      obtain ⟨xs, rfl⟩ := fits_ints h2
      exact ⟨⟨n, xs⟩, rfl⟩
theorem fits_terms {d : D} (h : Fits (.slc tyT) d) : ∃ ts, d = tms ts := by
  cases h with
  | slc h =>
    obtain ⟨xs, rfl⟩ := fits_all (g := Tm.cells) (fun e he => fits_term he) h
    exact ⟨xs, rfl⟩
/-! ### What came in reads as it did -/
theorem rdl_rms {L : Nat} {w : World} {ok : Nat → Prop} {m : Nat → Go.Al.Loc} : ∀ {ds : List D} {vs : List Value} {F : List Nat}, RDL L w ok ds vs F → F = [] → RMs L w ok m (ds.map .d) vs
  | _, _, _, .nil, _ => .nil
  | _, _, _, .cons (F1 := F1) (F2 := F2) h1 h2, hF => by
    obtain ⟨rfl, rfl⟩ := List.append_eq_nil_iff.1 hF
    exact .cons (.d h1) (rdl_rms h2 rfl)
section
variable {H : Type} {enc : TypeId × Value → H} {P : Program} {w w' : World}
theorem same_at (hs : ∀ b, b < w.heap.size → Same w w' b) {p : MemPlace} (hp : p.block < w.heap.size) : w.sameAt w' p := by
  cases p with
  | cell b o => exact (hs b hp).cell
  | map b => exact hs b hp
theorem trodAll_same (hs : ∀ b, b < w.heap.size → Same w w' b) {base : Nat} {sp : Nat → Bool} {held : Bool} : ∀ {ts : List TypeId} {vs : List Value} {ds : List (DataW H)} {ps : List MemPlace}, (∀ p ∈ ps, p.block < w.heap.size) → DataW.TrodAll enc P w base sp held ts vs ds ps → DataW.TrodAll enc P w' base sp held ts vs ds ps
  | [], [], [], _, _, h => h
  | _ :: _, _ :: _, _ :: _, _, hl, ⟨p, q, ⟨n, h1⟩, h2, e⟩ =>
    ⟨p, q, ⟨n, DataW.trod_carry n _ _ _ h1 (fun x hx => same_at hs (hl x (by rw [e]; exact List.mem_append_left _ hx)))⟩, trodAll_same hs (fun x hx => hl x (by rw [e]; exact List.mem_append_right _ hx)) h2, e⟩
theorem frame_kept (hf : Go.Al.Frame w w' []) (may : MemPlace → Prop) : w.keptBut w' may := by
  refine ⟨hf.os, hf.output, fun i hi => ?_⟩
  have h := hf.block i hi (by simp)
  unfold Same at h
  rw [h]
  cases hx : w.heap[i]? with
  | none => trivial
  | some o =>
    cases o with
    | cells c t fr => exact ⟨rfl, rfl, rfl, fun _ _ => rfl⟩
    | map es clock => exact .inr ⟨rfl, rfl⟩
    | _ => rfl
theorem frozen_old (hf : Go.Al.Frame w w' []) {a : Addr} (ha : a.block < w.heap.size) : w'.frozen? a = w.frozen? a := by
  have h := hf.block a.block ha (by simp)
  unfold Same at h
  unfold World.frozen?
  rw [h]
theorem post_of_old {f : Func} {s : ChangeSpec} {apart fresh handsOn again : Bool} {args : Array Value} {v : Value} {ds gs : List (DataW H)} {before pa pv : List MemPlace}
    (hW : DataW.Whole enc P f.params.toList s.vars apart w args.toList ds gs before)
    (hres : ∀ (b : Nat) (sp : Nat → Bool) (hd : Bool), DataW.TrodAll enc P w' b sp hd f.resultTypes.toList (v.resultList f.resultTypes.size) (s.fn H (ds ++ gs)).results [])
    (hargs : ∀ sp : Nat → Bool, (∀ p ∈ before, sp p.block = true) → DataW.TrodAll enc P w' 0 sp true f.params.toList args.toList (s.fn H (ds ++ gs)).args pa)
    (hvars : ∀ sp : Nat → Bool, (∀ p ∈ before, sp p.block = true) → DataW.TrodVars enc P w' sp s.vars (s.fn H (ds ++ gs)).vars pv)
    (hps : before = pa ++ pv) (hf : Go.Al.Frame w w' [])
    (hok : ∀ (j : Nat) (t : TypeId) (r : Value), f.resultTypes[j]? = some t → (v.resultList f.resultTypes.size)[j]? = some r → Value.okWide P w' .any 0 t r) :
    s.post enc P f apart fresh handsOn again w args v w' := by
  have hlt := hW.lt
  have hold : ∀ p ∈ before, (fun b => decide (b < w.heap.size)) p.block = true := fun p hp => by simpa using hlt p hp
  refine ⟨ds, gs, before, [], pa, pv, hW, hres _ _ _, hargs _ hold, hvars _ hold, World.keptBut_mono (fun p hp => ⟨hp, ?_⟩) (frame_kept hf (· ∈ before)), fun _ => ?_⟩
  · rw [hps, List.mem_append] at hp
    exact Or.inr hp
  · obtain ⟨_, _, _, _, _, hz, hn⟩ := hW
    refine ⟨hok, _, _, ([] ++ pa) ++ pv, ⟨[] ++ pa, pv, trodAll_append (hargs _ (fun _ _ => rfl)) (hres _ _ _), hvars _ (fun _ _ => rfl), rfl, ?_, ?_⟩, ?_⟩
    · intro b off hp
      have hp' : MemPlace.cell b off ∈ before := by rw [hps]; simpa using hp
      rw [frozen_old hf (hlt _ hp')]
      exact hz b off hp'
    · intro ha
      have := hn ha
      rw [hps] at this
      simpa using this
    · intro p hp _
      rw [hps]
      simpa using hp
end

end Go.Proofs.YtnepkogijffmjaaGreat
