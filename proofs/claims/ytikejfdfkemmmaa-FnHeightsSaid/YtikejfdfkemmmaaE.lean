/- Programs and their validity; the reference's functions for po. -/
import Derived.Test.YtikejfdfkemmmaaD
set_option linter.unusedVariables false
set_option linter.unusedSimpArgs false
set_option maxRecDepth 10000
open Go.Proofs
namespace Go.Al
variable {L : Nat} (h1 : 4096 ≤ L) (h2 : L ≤ 1073741824)
def Tm.term (t : Tm) : Bool := t.ok && decide ((t.xs.length : Int) ≤ 4)
def po (ts : List Tm) (n : Int) : Bool := ts.all Tm.term && decide ((ts.length : Int) ≤ n)
def qd (k : Int) : Int := if k = 1 then 2 else if k = 7 then 2 else if k = 8 then 1 else 0
def Tm.zero (t : Tm) : Bool := decide (t.c = 0) && decide ((t.xs.length : Int) = 0)

def qH (s : Sm) : Bool := bif bif bif bif decide (s.kind = 2) then true else decide (s.kind = 4) then true else decide (s.kind = 6) then true else decide (s.kind = 7) then true else decide (s.kind = 8)
def qJ (s : Sm) : Bool := bif decide (s.kind = 3) then true else decide (s.kind = 4)
def oN (s : Sm) : Bool := bif decide (s.kind = 2) then true else decide (s.kind = 3)
def sB1 (s : Sm) : Bool := bif bif bif !(decide (0 ≤ s.kind) && decide (s.kind ≤ 8)) then true else !s.sum.term then true else !s.index.term then true else !po s.facts 6
def sB2 (s : Sm) : Bool := bif bif bif !qH s then !s.sum.zero else false then true else bif !qJ s then !s.index.zero else false then true else bif !decide (s.kind = 8) then decide ((0 : Int) < s.facts.length) else false
def sB3 (s : Sm) : Bool := bif bif oN s then !(decide (0 ≤ s.var) && decide (s.var ≤ 3)) else false then true else bif !oN s then !decide (s.var = 0) else false
def pp (s : Sm) : Bool := bif sB1 s then false else bif sB2 s then false else bif sB3 s then false else bif decide (s.kind = 5) then (decide (0 ≤ s.event) && decide (s.event ≤ 3)) else decide (s.event = 0)
def f5 (x : Int) : Bool := decide (-1000000000 ≤ x) && decide (x ≤ 1000000000)
def cf (xs : List Int) (n : Int) : Bool := xs.all f5 && decide ((xs.length : Int) = n)
def lr (s : Sx) : Bool := cf s.vars 4 && cf s.cells 8
def bW (lo hi x : Int) : Bool := decide (lo ≤ x) && decide (x ≤ hi)

variable {x : Int}
theorem eK {lo hi : Int} : MQ h1 h2 30 [eI x, eI lo, eI hi] [] (Plain (eB (bW lo hi x))) := by
 refine aI ?_ Z
 refine jB 15 h1 h2 Try.func30 Z Z Z fun O hF => ?_
 refine ac (js O Z (aW (j4 O Z Z Z Z (aU 3 Z Z Z (fun hx => AN.step hx Z Z Z (V O Z) Z Z ( AN.step hx Z Z Z (V O Z) Z Z ( AN.step hx Z Z Z (V O Z) Z Z ( AN.nil)))) Z Z (AOps.step (aB O Z Z Z Z Z) Z Z Z (js O Z (jr ?_)))))))
 refine ⟨.inl Z, _, ap, _, Z, ?_⟩
 rw [Bool.cond_false_right]; rfl
theorem oZ {xs : List Int} {lo hi : Int} : MQ h1 h2 49 [aT xs, eI lo, eI hi] [] (Plain (eB (xs.all (bW lo hi)))) := by
 refine aI ?_ Z
 refine jB 21 h1 h2 Try.func49 Z Z Z fun O hF => ?_
 have hl : xs.length ≤ L := by simpa [As.fact, A.fact, M.fact, D.fact, Ds.fact] using hF.1.1
 refine ac (js O Z (jn (ak (ac (js O Z (cw O Z (js O Z (jn (aq (aG (X := Nat) (fun i => ⟨[(1, eI lo), (2, eI hi), (9, aT xs), (10, eI xs.length), (11, eI i)], []⟩) (fun i => i ≤ xs.length ∧ ∀ j (h : j < xs.length), j < i → bW lo hi xs[j] = true) (fun i => xs.length - i) 0 (Ent.env ⟨Z, Z, Z, Z, Z, trivial⟩) ?_ (fun i hi => ?_)))))))))))
 exact ⟨ga _, fun j h hj => absurd hj (Nat.not_lt_zero j)⟩
 refine ac (js O Z (jn (ak (aa O Z Z (fun hc12 => ?_) (fun hc12 => ?_)))))
 try simp only [bv] at hc12
 refine am (ak (aq (ac (lv O Z Z (j2 O Z Z (aW (j3 O Z Z Z (af O Z Z Z Z (eK h1 h2) (ab Z) Z Z Z Z Z (B0 := 19000) Z (js O Z (jn (aa O Z Z (fun hc19 => ?_) (fun hc19 => ?_))))))))))))
 try simp only [bv] at hc19
 refine ac (js O Z (jr ?_))
 refine ⟨.inl Z, _, ap, _, Z, ?_⟩
 rw [Int.toNat_natCast, aM (by omega)] at hc19
 rw [nh i (by omega) hc19]
 try simp only [bv] at hc19
 refine am (ae (ji O Z (js O Z (jn ?_))))
 refine ⟨i + 1, Ent.env ⟨Z, Z, Z, Z, Z, trivial⟩, ⟨by omega, fun j h hj => ?_⟩, by omega⟩
 by_cases e : j = i
 subst e; rw [Int.toNat_natCast, aM h] at hc19; exact hc19
 exact hi.2 j h (by omega)
 try simp only [bv] at hc12
 refine bF (ac (js O Z (jr ?_)))
 refine ⟨.inl Z, _, ap, _, Z, ?_⟩
 rw [oD (fun j hj => hi.2 j hj (by omega))]
theorem oX : MQ h1 h2 43 [eI x] [] (Plain (eB (gc x))) := by
 refine aI ?_ Z
 refine jB 5 h1 h2 Try.func43 Z Z Z fun O hF => ?_
 refine ac (js O Z (aW (js O Z (af O Z Z Z Z (eK h1 h2) (ab Z) Z Z Z Z Z (B0 := 5000) Z (js O Z (jr ?_))))))
 refine ⟨.inl Z, _, ap, _, Z, ?_⟩
 first | rfl | skip
theorem oW : MQ h1 h2 44 [eI x] [] (Plain (eB (bW 0 3 x))) := by
 refine aI ?_ Z
 refine jB 5 h1 h2 Try.func44 Z Z Z fun O hF => ?_
 refine ac (js O Z (aW (js O Z (af O Z Z Z Z (eK h1 h2) (ab Z) Z Z Z Z Z (B0 := 5000) Z (js O Z (jr ?_))))))
 refine ⟨.inl Z, _, ap, _, Z, ?_⟩
 first | rfl | skip
theorem qS : MQ h1 h2 46 [eI x] [] (Plain (eB (bW 0 3 x))) := by
 refine aI ?_ Z
 refine jB 5 h1 h2 Try.func46 Z Z Z fun O hF => ?_
 refine ac (js O Z (aW (js O Z (af O Z Z Z Z (eK h1 h2) (ab Z) Z Z Z Z Z (B0 := 5000) Z (js O Z (jr ?_))))))
 refine ⟨.inl Z, _, ap, _, Z, ?_⟩
 first | rfl | skip
theorem mY : MQ h1 h2 51 [eI x] [] (Plain (eB (f5 x))) := by
 refine aI ?_ Z
 refine jB 5 h1 h2 Try.func51 Z Z Z fun O hF => ?_
 refine ac (js O Z (aW (js O Z (af O Z Z Z Z (eK h1 h2) (ab Z) Z Z Z Z Z (B0 := 5000) Z (js O Z (jr ?_))))))
 refine ⟨.inl Z, _, ap, _, Z, ?_⟩
 first | rfl | skip
inductive Tr where
  | node (s : Sm) (at_ : Int) (kids : List Tr)
mutual
def Tr.d : Tr → D
  | .node s a ks => .ptr [.int .i64 s.kind, .int .i64 s.var, .int .i64 s.event, .int .i64 s.sum.c, dH s.sum.xs, .int .i64 s.index.c, dH s.index.xs, tms s.facts, .int .i64 a, .slc 1 (Trs.d ks)] 0
def Trs.d : List Tr → List (List D)
  | [] => []
  | t :: r => [t.d] :: Trs.d r
end
theorem qW {s : Sx} : MQ h1 h2 37 [jE s] [] (Plain (eB (lr s))) := by
 refine aI ?_ Z
 refine jB 23 h1 h2 Try.func37 Z Z Z fun O hF => ?_
 refine ac (jx O Z (js O Z (aW (j2 O Z Z (cw O Z (j2 O Z Z (jf [7,2,1,0] Z (aU 4 Z Z Z (fun hx => AN.step hx Z Z Z (V O Z) Z Z ( AN.step hx Z Z Z (V O Z) Z Z ( AN.step hx Z Z Z (bu O Z Z Z Z Z Z Z Z) Z Z ( AN.step hx Z Z Z (V O Z) Z Z ( AN.nil))))) Z Z (AOps.step (aB O Z Z Z Z Z) Z Z Z (js O Z (jf [13,2,1,0] Z (aU 3 Z Z Z (fun hx => AN.step hx Z Z Z (V O Z) Z Z ( AN.step hx Z Z Z (V O Z) Z Z ( dy O hx Z Z Z Z (oZ h1 h2) (ab Z) Z Z Z Z Z Z Z (B0 := 17000) Z ( AN.nil)))) Z Z (AOps.step (aB O Z Z Z Z Z) Z Z Z (js O Z (jf [18,2,1,0] Z (aU 3 Z Z Z (fun hx => AN.step hx Z Z Z (V O Z) Z Z ( AN.step hx Z Z Z (V O Z) Z Z ( dy O hx Z Z Z Z (oZ h1 h2) (ab Z) Z Z Z Z Z Z Z (B0 := 22000) Z ( AN.nil)))) Z Z (AOps.step (aB O Z Z Z Z Z) Z Z Z (js O Z (jf [2,0] Z (jr ?_))))))))))))))))))))
 refine ⟨.inl Z, _, ap, _, Z, ?_⟩
 exact congrArg eB (show (bif bif bif decide ((s.vars.length : Int) = 4) then decide ((s.cells.length : Int) = 8) else false then s.vars.all f5 else false then s.cells.all f5 else false) = lr s by unfold lr cf; cases s.vars.all f5 <;> cases s.cells.all f5 <;> simp)
theorem o9 {v c : List Int} : MQ h1 h2 38 [.agg [.d (dH v), .d (dH c)]] [] (Rows (.agg [.rs 0 0 v.length, .rs 1 0 c.length]) [ah v, ah c]) := by
 refine b9 (jB 10 h1 h2 Try.func38 Z Z Z fun O hF => ?_)
 refine ac (jx O Z (jl O Z (jn (ak (gW O [_,_,_,_,_,_,_,_] [pn [] 0 0, pn [0] 0 0, pe [0,1] 0, pn [] 0 1, pn [3] 0 1, pe (rg 0 5) 1, pn (rg 0 6) 2 2, pe (rg 0 7) 2] [2,5,7] [_,_,_,_] (kc O Z (kc O Z (ai (fh O (B0 := 6000) Z Z Z Z (oY h1 h2) (ab Z) Z Z Z Z Z) (ai (kc O Z (V O Z)) (ai (kc O Z (V O Z)) (ai (fh O (B0 := 9000) Z Z Z Z (oY h1 h2) (ab Z) Z Z Z Z Z) (kc O Z (ai (eS O Z Z Z) trivial)))))))) ?_)))))
 refine oK ?_
 refine ⟨.inl Z, _, ap, _, Z, [6000,9000], by decide, Z, Z, Z⟩
structure RS where
  vars : List Int
  cells : List Int
  events : List Int
  fuel : Int
  steps : Int
  out : Int
structure RSok (r : RS) : Prop where
  vars : cf r.vars 4 = true
  cells : cf r.cells 8 = true
  lo : 0 ≤ r.steps
  hi : r.steps ≤ r.fuel
  fuel : r.fuel ≤ 2000
  events : (r.events.length : Int) ≤ r.steps
structure RSle (r r' : RS) : Prop where
  ok : RSok r'
  fuel : r'.fuel = r.fuel
  steps : r.steps ≤ r'.steps

mutual
/-- Each element is valid, and has the statements behind it that it bq. -/
def Tr.ok : Tr → Prop
  | .node s _ ks => pp s = true ∧ (ks.length : Int) = qd s.kind ∧ Trs.ok ks
def Trs.ok : List Tr → Prop
  | [] => True
  | t :: r => t.ok ∧ Trs.ok r
end
def r0 (s : Sx) (f : Int) : RS := ⟨s.vars, s.cells, [], f, 0, 0⟩
structure Rs where
  v : List Int
  c : List Int
  ev : List Int
  out : Int
  st : Int
structure Nd where
  kind : Int
  fact : Int
  term : Tm
  mul : List Int
  deriving Inhabited, DecidableEq
structure Sq where
  facts : List Tm
  goal : Tm
  deriving Inhabited, DecidableEq
def oL (xs : List Int) : List Int := (xs.reverse.dropWhile (· == 0)).reverse
def q4 (c : Int) (xs : List Int) : Tm × Bool := if (Tm.mk c (oL xs)).ok = true then (⟨c, oL xs⟩, true) else (⟨0, []⟩, false)
def qF (a : Tm) (m : Int) (b : Tm) (n : Int) : List Int := (List.range 10).map fun i => m * a.xs.getD i 0 + n * b.xs.getD i 0
def qE (a : Tm) (m : Int) (b : Tm) (n : Int) : Tm × Bool := q4 (m * a.c + n * b.c) (qF a m b n)
def oP (t : Tm) : Tm × Bool := qE t (-1) ⟨1, []⟩ (-1)
structure Small (t : Tm) : Prop where
  c : gc t.c = true
  xs : t.xs.all gc = true
def dl (k : Int) : Int := if k = 1 then -1 else if k = 2 then 1 else 0
def oS : List Nd → Int → Option Nat
  | [], need => if need ≤ 0 then some 0 else none
  | s :: r, need => if need ≤ 0 then some 0 else (oS r (need + dl s.kind)).map (· + 1)
def qR (p : List Nd) (k : Nat) : Int := match oS (p.drop k) 1 with
  | some n => k + n
  | none => -1
def oF (p : List Nd) (k : Nat) : Nat → Int × Bool
  | 0 => (-1, false)
  | i + 1 => if (p.getD i default).kind = 1 ∨ qR p i ≤ k then oF p k i else (i, decide (i + 1 = k))
def lI (xs : List Int) : Nat := xs.foldl (fun g x => Nat.gcd g x.natAbs) 0
def mx (a b : Int) : Int := if a > b then a else b
def l5 (t : Tm) : Tm × Bool := if lI t.xs < 2 then (⟨0, []⟩, false) else
  q4 (if t.c.tmod (lI t.xs) < 0 then t.c.tdiv (lI t.xs) - 1 else t.c.tdiv (lI t.xs)) (t.xs.map fun x => x.tdiv (lI t.xs))
def oB (n : Nd) (ctx : List Tm) (first : Bool) : List Tm := if n.kind = 3 then ctx ++ [(l5 (ctx.getD n.fact.toNat default)).1] else if first = true then ctx ++ [n.term] else ctx ++ [(oP n.term).1]
def mX (f : Tm → Int) : List Tm → List Int → Int
  | t :: ts, m :: ms => m * f t + mX f ts ms
  | _, _ => 0
abbrev oU (k : Nat) : Tm → Int := fun t => t.xs.getD k 0
def pH (ts : List Tm) (ms : List Int) : List Int := (List.range 10).map fun k => mX (oU k) ts ms
def nd (ctx : List Tm) (ms : List Int) : Bool := decide (ctx.length = ms.length) && ((pH ctx ms).all (fun x => decide (x = 0)) && decide (mX Tm.c ctx ms < 0))
def ma (n : Nd) (ctx : List Tm) : Bool := if n.kind = 1 then nd ctx n.mul else if 20 ≤ ctx.length then false else if n.kind = 2 then (oP n.term).2 else if n.fact ≥ ctx.length then false else (l5 (ctx.getD n.fact.toNat default)).2

def oO (ts : List Tm) (ms : List Int) (i j : Nat) : List Int := (List.range 10).map fun k => mX (oU k) (ts.take i) (ms.take i) + (if k < j then ms.getD i default * (ts.getD i default).xs.getD k 0 else 0)
structure CtxOk (ctx : List Tm) : Prop where
  ok : ∀ t ∈ ctx, t.ok = true
  len : ctx.length ≤ 1000
end Go.Al
