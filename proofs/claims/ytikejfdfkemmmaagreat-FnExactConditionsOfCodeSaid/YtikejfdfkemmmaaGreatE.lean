/- Programs and their validity; the reference's functions for bW. -/
import Derived.Test.YtikejfdfkemmmaaGreatD
set_option linter.unusedVariables false
set_option linter.unusedSimpArgs false
set_option maxRecDepth 10000
open Go.Proofs
namespace Go.Al
variable {L : Nat} (h1 : 4096 ≤ L) (h2 : L ≤ 1073741824)
def Tm.term (t : Tm) : Bool := t.ok && decide ((t.xs.length : Int) ≤ 4)
def bW (ts : List Tm) (n : Int) : Bool := ts.all Tm.term && decide ((ts.length : Int) ≤ n)
def uf (k : Int) : Int := if k = 1 then 2 else if k = 7 then 2 else if k = 8 then 1 else 0
def Tm.zero (t : Tm) : Bool := decide (t.c = 0) && decide ((t.xs.length : Int) = 0)

def yw (s : Sm) : Bool := bif bif bif bif decide (s.kind = 2) then true else decide (s.kind = 4) then true else decide (s.kind = 6) then true else decide (s.kind = 7) then true else decide (s.kind = 8)
def yy (s : Sm) : Bool := bif decide (s.kind = 3) then true else decide (s.kind = 4)
def vW (s : Sm) : Bool := bif decide (s.kind = 2) then true else decide (s.kind = 3)
def sB1 (s : Sm) : Bool := bif bif bif !(decide (0 ≤ s.kind) && decide (s.kind ≤ 8)) then true else !s.sum.term then true else !s.index.term then true else !bW s.facts 6
def sB2 (s : Sm) : Bool := bif bif bif !yw s then !s.sum.zero else false then true else bif !yy s then !s.index.zero else false then true else bif !decide (s.kind = 8) then decide ((0 : Int) < s.facts.length) else false
def sB3 (s : Sm) : Bool := bif bif vW s then !(decide (0 ≤ s.var) && decide (s.var ≤ 3)) else false then true else bif !vW s then !decide (s.var = 0) else false
def tN (s : Sm) : Bool := bif sB1 s then false else bif sB2 s then false else bif sB3 s then false else bif decide (s.kind = 5) then (decide (0 ≤ s.event) && decide (s.event ≤ 3)) else decide (s.event = 0)
def x0 (x : Int) : Bool := decide (-1000000000 ≤ x) && decide (x ≤ 1000000000)
def tR (xs : List Int) (n : Int) : Bool := xs.all x0 && decide ((xs.length : Int) = n)
def zn : List Int → List Int → Int
  | x :: xs, y :: ys => x * y + zn xs ys
  | _, _ => 0
def ix (t : Tm) (vars : List Int) : Int := t.c + zn t.xs vars
theorem xP {x : Int} : num x = true ↔ -1000000 ≤ x ∧ x ≤ 1000000 := by simp [num]
abbrev cM (t : Tm) : A := .agg (t.cells.map .d)
def dp (lo hi x : Int) : Bool := decide (lo ≤ x) && decide (x ≤ hi)

variable {x : Int}
theorem mM {lo hi : Int} : MQ h1 h2 131 [eI x, eI lo, eI hi] [] (Plain (eB (dp lo hi x))) := by
 refine aB ?_ Z
 refine jB 15 h1 h2 Tryz.func131 Z Z Z fun O hF => ?_
 refine ae (js O Z (aN (j4 O Z Z Z Z (aR 3 Z Z Z (fun hx => AN.step hx Z Z Z (V O Z) Z Z ( AN.step hx Z Z Z (V O Z) Z Z ( AN.step hx Z Z Z (V O Z) Z Z ( AN.nil)))) Z Z (AOps.step (aK O Z Z Z Z Z) Z Z Z (js O Z (jr ?_)))))))
 refine ⟨.inl Z, _, aj, _, Z, ?_⟩
 rw [Bool.cond_false_right]; rfl
variable {xs : List Int}
theorem y2 {lo hi : Int} : MQ h1 h2 132 [cw xs, eI lo, eI hi] [] (Plain (eB (xs.all (dp lo hi)))) := by
 refine aB ?_ Z
 refine jB 21 h1 h2 Tryz.func132 Z Z Z fun O hF => ?_
 have hl : xs.length ≤ L := by simpa [As.fact, A.fact, M.fact, D.fact, Ds.fact] using hF.1.1
 refine ae (js O Z (jn (ag (ae (js O Z (bw O Z (js O Z (jn (am (au (X := Nat) (fun i => ⟨[(1, eI lo), (2, eI hi), (9, cw xs), (10, eI xs.length), (11, eI i)], []⟩) (fun i => i ≤ xs.length ∧ ∀ j (h : j < xs.length), j < i → dp lo hi xs[j] = true) (fun i => xs.length - i) 0 (Ent.env ⟨Z, Z, Z, Z, Z, trivial⟩) ?_ (fun i hi => ?_)))))))))))
 exact ⟨cC _, fun j h hj => absurd hj (Nat.not_lt_zero j)⟩
 refine ae (js O Z (jn (ag (ab O Z Z (fun hc12 => ?_) (fun hc12 => ?_)))))
 try simp only [aJ] at hc12
 refine ah (ag (am (ae (ir O Z Z (j2 O Z Z (aN (j3 O Z Z Z (ac O Z Z Z Z (mM h1 h2) (aa Z) Z Z Z Z Z (B0 := 19000) Z (js O Z (jn (ab O Z Z (fun hc19 => ?_) (fun hc19 => ?_))))))))))))
 try simp only [aJ] at hc19
 refine ae (js O Z (jr ?_))
 refine ⟨.inl Z, _, aj, _, Z, ?_⟩
 rw [Int.toNat_natCast, aw (by omega)] at hc19
 rw [eQ i (by omega) hc19]
 try simp only [aJ] at hc19
 refine ah (ak (ji O Z (js O Z (jn ?_))))
 refine ⟨i + 1, Ent.env ⟨Z, Z, Z, Z, Z, trivial⟩, ⟨by omega, fun j h hj => ?_⟩, by omega⟩
 by_cases e : j = i
 subst e; rw [Int.toNat_natCast, aw h] at hc19; exact hc19
 exact hi.2 j h (by omega)
 try simp only [aJ] at hc12
 refine aU (ae (js O Z (jr ?_)))
 refine ⟨.inl Z, _, aj, _, Z, ?_⟩
 rw [fB (fun j hj => hi.2 j hj (by omega))]
theorem sL : MQ h1 h2 157 [eI x] [] (Plain (eB (num x))) := by
 refine aB ?_ Z
 refine jB 5 h1 h2 Tryz.func157 Z Z Z fun O hF => ?_
 refine ae (js O Z (aN (js O Z (ac O Z Z Z Z (mM h1 h2) (aa Z) Z Z Z Z Z (B0 := 5000) Z (js O Z (jr ?_))))))
 refine ⟨.inl Z, _, aj, _, Z, ?_⟩
 first | rfl | skip
theorem sV (t : Tm) : (bif bif bif decide ((t.xs.length : Int) ≤ 10) then num t.c else false then t.xs.all num else false then bif decide ((t.xs.length : Int) = 0) then true else !decide (t.xs.getD ((t.xs.length : Int) - 1).toNat default = 0) else false) = t.ok := by
 unfold Tm.ok
 cases num t.c <;> cases t.xs.all num <;> simp
 by_cases h0 : t.xs = []
 simp [h0]
 have h1 : 0 < t.xs.length := List.length_pos_iff.2 h0
 by_cases h2 : (t.xs.length : Int) ≤ 10
 have h3 : ¬ (10 : Int) < t.xs.length := by omega
 simp [h0, h1, h2, h3]
 have h3 : (10 : Int) < t.xs.length := by omega
 simp [h2, h3]
variable {t : Tm}
theorem j9 : MQ h1 h2 130 [cM t] [] (Plain (eB t.ok)) := by
 refine aB ?_ Z
 refine jB 32 h1 h2 Tryz.func130 Z Z Z fun O hF => ?_
 have hl : t.xs.length ≤ L := by simpa [As.fact, A.fact, M.fact, Ms.fact, D.fact, Ds.fact] using hF.1.2.1.1
 refine ae (jx O Z (js O Z (aN (j2 O Z Z (bw O Z (js O Z (jf [3,2,1,0] Z (aN (j3 O Z Z Z (jf [9,3,2,1,0] Z (aR 3 Z Z Z (fun hx => AN.step hx Z Z Z (V O Z) Z Z ( AN.step hx Z Z Z (V O Z) Z Z ( db O hx Z Z Z Z (sL h1 h2) (aa Z) Z Z Z Z Z Z Z (B0 := 13000) Z ( AN.nil)))) Z Z (AOps.step (aK O Z Z Z Z Z) Z Z Z (js O Z (jf [14,3,2,1,0] Z (aR 3 Z Z Z (fun hx => AN.step hx Z Z Z (V O Z) Z Z ( AN.step hx Z Z Z (V O Z) Z Z ( db O hx Z Z Z Z (y2 h1 h2) (aa Z) Z Z Z Z Z Z Z (B0 := 18000) Z ( AN.nil)))) Z Z (AOps.step (aK O Z Z Z Z Z) Z Z Z (js O Z (jf [19,3,2,1,0] Z (aR 11 Z Z Z (fun hx => AN.step hx Z Z Z (V O Z) Z Z ( AN.step hx Z Z Z (V O Z) Z Z ( AN.step hx Z Z Z (V O Z) Z Z ( nZ 7 Z Z Z Z (fun hx' => AN.step hx' Z Z Z (V O Z) Z Z ( AN.step hx' Z Z Z (V O Z) Z Z ( AN.step hx' Z Z Z (V O Z) Z Z ( AN.step hx' Z Z Z (aG O Z Z (by first | omega | (simp only [aJ] at *; omega)) (by first | omega | (simp only [aJ] at *; omega))) Z Z ( AN.step hx' Z Z Z (bD O Z Z Z Z Z Z Z Z (by first | omega | (simp only [aJ] at *; omega)) (mg (by first | omega | (simp only [aJ] at *; omega)) (by first | omega | (simp only [aJ] at *; omega)))) Z Z ( AN.step hx' Z Z Z (V O Z) Z Z ( AN.step hx' Z Z Z (V O Z) Z Z ( AN.nil)))))))) Z Z ( AN.step hx Z Z Z (aM O Z Z Z Z Z) Z Z ( AN.nil)))))) Z Z (AOps.step (aK O Z Z Z Z Z) Z Z Z (js O Z (jf [2,1,0] Z (jr ?_)))))))))))))))))))))))
 refine ⟨.inl Z, _, aj, _, Z, ?_⟩
 exact congrArg eB (sV t)
theorem yV : MQ h1 h2 165 [cM t] [] (Plain (eB t.term)) := by
 refine aB ?_ Z
 refine jB 11 h1 h2 Tryz.func165 Z Z Z fun O hF => ?_
 refine ae (jx O Z (js O Z (aN (js O Z (ac O Z Z Z Z (j9 h1 h2) (aa Z) Z Z Z Z Z (B0 := 5000) Z (js O Z (jf [5,2,1,0] Z (aR 4 Z Z Z (fun hx => AN.step hx Z Z Z (V O Z) Z Z ( AN.step hx Z Z Z (V O Z) Z Z ( AN.step hx Z Z Z (cp O Z Z Z Z Z Z Z Z) Z Z ( AN.step hx Z Z Z (V O Z) Z Z ( AN.nil))))) Z Z (AOps.step (aK O Z Z Z Z Z) Z Z Z (js O Z (jf [2,0] Z (jr ?_))))))))))))
 refine ⟨.inl Z, _, aj, _, Z, ?_⟩
 rw [Bool.cond_false_right]; rfl
theorem yW : MQ h1 h2 164 [cM t] [] (Plain (eB !t.term)) := by
 refine aB ?_ Z
 refine jB 6 h1 h2 Tryz.func164 Z Z Z fun O hF => ?_
 refine ae (jx O Z (js O Z (aN (js O Z (jf [3,2,0] Z (ac O Z Z Z Z (yV h1 h2) (aa Z) Z Z Z Z Z (B0 := 5000) Z (j2 O Z Z (jf [2,0] Z (jr ?_)))))))))
 refine ⟨.inl Z, _, aj, _, Z, ?_⟩
 first | rfl | skip
def nC (ts : List Tm) : Int := if ts.all Tm.term = true then -1 else (ts.findIdx fun t => !t.term : Nat)
theorem r7 {ts : List Tm} (h : ∀ j (hj : j < ts.length), Tm.term ts[j] = true) : nC ts = -1 := by rw [nC, if_pos (fB h)]
theorem tm {ts : List Tm} {i : Nat} (hi : i < ts.length) (h : ∀ j (hj : j < ts.length), j < i → Tm.term ts[j] = true) (hn : Tm.term ts[i] = false) : nC ts = i := by
 rw [nC, if_neg (by rw [eQ i hi hn]; decide)]
 exact congrArg Nat.cast ((List.findIdx_eq hi).2 ⟨by simp [hn], fun j hj => by simp [h j (by omega) hj]⟩)
theorem r6 {ts : List Tm} : decide (nC ts ≥ 0) = !ts.all Tm.term := by
 unfold nC
 cases h : ts.all Tm.term <;> simp
variable {ts : List Tm}
theorem yP : MQ h1 h2 181 [cm ts, .c (.fn 164 [])] [] (Plain (eI (nC ts))) := by
 refine aB ?_ Z
 refine jB 19 h1 h2 Tryz.func181 Z Z Z fun O hF => ?_
 have hl : ts.length ≤ L := by simpa [As.fact, A.fact, M.fact, D.fact, Ds.fact] using hF.1.1
 refine ae (js O Z (jn (ag (ae (js O Z (bw O Z (js O Z (jn (am (au (X := Nat) (fun i => ⟨[(0, cm ts), (1, .c (.fn 164 [])), (7, eI ts.length), (8, eI i)], []⟩) (fun i => i ≤ ts.length ∧ ∀ j (h : j < ts.length), j < i → Tm.term ts[j] = true) (fun i => ts.length - i) 0 (Ent.env ⟨Z, Z, Z, Z, trivial⟩) ?_ (fun i hi => ?_)))))))))))
 exact ⟨cC _, fun j h hj => absurd hj (Nat.not_lt_zero j)⟩
 refine ae (js O Z (jn (ag (ab O Z Z (fun hc9 => ?_) (fun hc9 => ?_)))))
 try simp only [aJ] at hc9
 refine ah (ag (am (ae (j2 O Z Z (aN (j3 O Z Z Z (ir O Z Z (js O Z (ac O Z Z Z Z (yW h1 h2) (aa Z) Z Z Z Z Z (B0 := 17000) Z (jn (ab O Z Z (fun hc16 => ?_) (fun hc16 => ?_))))))))))))
 try simp only [aJ] at hc16
 refine ae (j2 O Z Z (jr ?_))
 refine ⟨.inl Z, _, aj, _, Z, ?_⟩
 rw [Int.toNat_natCast, aw (by omega)] at hc16
 rw [tm (by omega) hi.2 hc16]
 try simp only [aJ] at hc16
 refine ah (ak (ji O Z (js O Z (jn ?_))))
 refine ⟨i + 1, Ent.env ⟨Z, Z, Z, Z, trivial⟩, ⟨by omega, fun j h hj => ?_⟩, by omega⟩
 by_cases e : j = i
 subst e; rw [Int.toNat_natCast, aw h] at hc16; exact hc16
 exact hi.2 j h (by omega)
 try simp only [aJ] at hc9
 refine aU (ae (js O Z (jr ?_)))
 refine ⟨.inl Z, _, aj, _, Z, ?_⟩
 rw [r7 (fun j hj => hi.2 j hj (by omega))]
theorem yX : MQ h1 h2 163 [cm ts, .c (.fn 164 [])] [] (Plain (eB !ts.all Tm.term)) := by
 refine aB ?_ Z
 refine jB 9 h1 h2 Tryz.func163 Z Z Z fun O hF => ?_
 refine ae (js O Z (aN (j2 O Z Z (ac O Z Z Z Z (yP h1 h2) (.cons (.c .d) (.cons (.c (.fn .nil)) .nil)) Z Z Z Z Z (B0 := 8000) Z (j2 O Z Z (jr ?_))))))
 refine ⟨.inl Z, _, aj, _, Z, ?_⟩
 exact congrArg eB r6
variable {n : Int}
theorem pS : MQ h1 h2 137 [cm ts, eI n] [] (Plain (eB (bW ts n))) := by
 refine aB ?_ Z
 refine jB 14 h1 h2 Tryz.func137 Z Z Z fun O hF => ?_
 refine ae (js O Z (aN (js O Z (bw O Z (j3 O Z Z Z (aR 3 Z Z Z (fun hx => AN.step hx Z Z Z (V O Z) Z Z ( db O hx Z Z Z Z (yX h1 h2) (.cons (.c .d) (.cons (.c (.fn .nil)) .nil)) Z Z Z Z Z Z Z (B0 := 12000) Z ( AN.step hx Z Z Z (V O Z) Z Z ( AN.nil)))) Z Z (AOps.step (aK O Z Z Z Z Z) Z Z Z (js O Z (jr ?_)))))))))
 refine ⟨.inl Z, _, aj, _, Z, ?_⟩
 rw [Bool.cond_false_right, Bool.not_not, Bool.and_comm]; rfl
theorem wq : MQ h1 h2 178 [eI x] [] (Plain (eB (dp 0 3 x))) := by
 refine aB ?_ Z
 refine jB 5 h1 h2 Tryz.func178 Z Z Z fun O hF => ?_
 refine ae (js O Z (aN (js O Z (ac O Z Z Z Z (mM h1 h2) (aa Z) Z Z Z Z Z (B0 := 5000) Z (js O Z (jr ?_))))))
 refine ⟨.inl Z, _, aj, _, Z, ?_⟩
 first | rfl | skip
theorem yQ : MQ h1 h2 180 [eI x] [] (Plain (eB (dp 0 3 x))) := by
 refine aB ?_ Z
 refine jB 5 h1 h2 Tryz.func180 Z Z Z fun O hF => ?_
 refine ae (js O Z (aN (js O Z (ac O Z Z Z Z (mM h1 h2) (aa Z) Z Z Z Z Z (B0 := 5000) Z (js O Z (jr ?_))))))
 refine ⟨.inl Z, _, aj, _, Z, ?_⟩
 first | rfl | skip
inductive Tr where
  | node (s : Sm) (at_ : Int) (kids : List Tr)
mutual
def Tr.d : Tr → D
  | .node s a ks => .ptr [.int .i64 s.kind, .int .i64 s.var, .int .i64 s.event, .int .i64 s.sum.c, eh s.sum.xs, .int .i64 s.index.c, eh s.index.xs, em s.facts, .int .i64 a, .slc 1 (Trs.d ks)] 0
def Trs.d : List Tr → List (List D)
  | [] => []
  | t :: r => [t.d] :: Trs.d r
end
structure RS where
  vars : List Int
  cells : List Int
  events : List Int
  fuel : Int
  steps : Int
  out : Int
def leaf (s : Sm) (r : RS) : Bool × RS :=
  if s.kind = 2 then (if x0 (ix s.sum r.vars) = true then (true, { r with vars := r.vars.set s.var.toNat (ix s.sum r.vars) }) else (false, { r with out := 4 }))
  else if s.kind = 3 then (if dp 0 7 (ix s.index r.vars) = true then (true, { r with vars := r.vars.set s.var.toNat (r.cells.getD (ix s.index r.vars).toNat default) }) else (false, { r with out := 2 }))
  else if s.kind = 4 then (if dp 0 7 (ix s.index r.vars) = true then (if x0 (ix s.sum r.vars) = true then (true, { r with cells := r.cells.set (ix s.index r.vars).toNat (ix s.sum r.vars) }) else (false, { r with out := 4 })) else (false, { r with out := 2 }))
  else if s.kind = 5 then (true, { r with events := r.events ++ [s.event] })
  else if s.kind = 6 then (if ix s.sum r.vars < 0 then (false, { r with out := 3 }) else (true, r))
  else (true, r)
structure RSok (r : RS) : Prop where
  vars : tR r.vars 4 = true
  cells : tR r.cells 8 = true
  lo : 0 ≤ r.steps
  hi : r.steps ≤ r.fuel
  fuel : r.fuel ≤ 2000
  events : (r.events.length : Int) ≤ r.steps
structure RSle (r r' : RS) : Prop where
  ok : RSok r'
  fuel : r'.fuel = r.fuel
  steps : r.steps ≤ r'.steps

mutual
/-- Each element is valid, and has the statements behind it that it dP. -/
def Tr.ok : Tr → Prop
  | .node s _ ks => tN s = true ∧ (ks.length : Int) = uf s.kind ∧ Trs.ok ks
def Trs.ok : List Tr → Prop
  | [] => True
  | t :: r => t.ok ∧ Trs.ok r
end
def r0 (s : Sx) (f : Int) : RS := ⟨s.vars, s.cells, [], f, 0, 0⟩
structure Rs where
  v : List Int
  c : List Int
  ev : List Int
  out : Int
  st : Int
structure Cf where
  n : Nat
  ws : List Nat
  v : List Int
  c : List Int
  ev : List Int
  st : Int

structure Nd where
  kind : Int
  fact : Int
  term : Tm
  mul : List Int
  deriving Inhabited, DecidableEq
structure Sq where
  facts : List Tm
  goal : Tm
  deriving Inhabited, DecidableEq
abbrev Sq.cells (s : Sq) : List D := [em s.facts, .int .i64 s.goal.c, eh s.goal.xs]
abbrev x6 (s : Sq) : A := .agg (s.cells.map .d)
theorem c36 {s t : Sq} : MQ h1 h2 51 [x6 s, x6 t] [] (Plain (eB (decide (s = t)))) := by
 refine aB ?_ Z
 refine jB 17 h1 h2 Tryz.func51 Z Z Z fun O hF => ?_
 refine ae (jx O Z (jx O Z (js O Z (jn (ag (ae (j4 O Z Z Z Z (ac O Z Z Z Z (xI h1 h2) (aa Z) Z Z Z Z Z (B0 := 10000) Z (js O Z (jn (ab O Z Z (fun hc10 => ?_) (fun hc10 => ?_))))))))))))
 try simp only [aJ] at hc10
 refine ae (js O Z (jr ?_))
 refine ⟨.inl Z, _, aj, _, Z, ?_⟩
 rw [decide_eq_false (fun e => hc10 (by rw [e]))]
 try simp only [aJ] at hc10
 refine ah (ag (ae (j4 O Z Z Z Z (ac O Z Z Z Z (zo h1 h2) (aa Z) Z Z Z Z Z (B0 := 16000) Z (js O Z (jn (ab O Z Z (fun hc16 => ?_) (fun hc16 => ?_))))))))
 try simp only [aJ] at hc16
 refine ae (js O Z (jr ?_))
 refine ⟨.inl Z, _, aj, _, Z, ?_⟩
 rw [decide_eq_false (fun e => hc16 (by rw [e]))]
 try simp only [aJ] at hc16
 refine ah (ae (js O Z (jr ?_)))
 refine ⟨.inl Z, _, aj, _, Z, ?_⟩
 have e : s = t := by cases s; cases t; simp_all
 rw [decide_eq_true e]
theorem oR {L : Nat} (h1 : 4096 ≤ L) (h2 : L ≤ 1073741824) {xs : List Int} : MC Tryz.prog L 116 [cw xs] [] (Plain (cw xs)) := (ur h1 h2).frozen (.v (.c (.whole rfl (bJ _).symm)))
theorem xh {L : Nat} (h1 : 4096 ≤ L) (h2 : L ≤ 1073741824) {xs : List Int} : MC Tryz.prog L 170 [cw xs] [] (Plain (cw xs)) := (uq h1 h2).frozen (.v (.c (.whole rfl (bJ _).symm)))
abbrev ao (ts : List Tm) : B := .row false 2 (ts.map Tm.cells)

theorem uu : MQ h1 h2 109 [ptr t.cells] [] (Plain (cM t)) := by
 refine MC.data (jB 13 h1 h2 Tryz.func109 Z Z Z fun O hF => ?_)
 refine ae (jl O Z (jn (ag (jS O [_,_,_,_,_,_,_,_,_,_,_] [pn [] 0 1, pn [0] 0 1, pn [0,1] 0 1, pn [0,1,2] 0 1, pn [] 0 0, pn [4] 0 0, pn [4,5] 0 0, pn [4,5,6] 0 0, pe (rg 4 4) 0, pn (rg 0 9) 1 1, pe (rg 0 10) 1] [8,10] [_,_,_] (ai (kc O Z (V O Z)) (ai (kc O Z (V O Z)) (ai (kc O Z (V O Z)) (ai (kc O Z (V O Z)) (kc O Z (kc O Z (kc O Z (kc O Z (ai (aW O (B0 := 12000) Z Z Z Z (oR (xs := t.xs) h1 h2) (aa Z) Z Z Z Z Z) (kc O Z (ai (eS O Z Z Z) trivial))))))))))) ?_))))
 refine i6 ?_
 refine ⟨.inl Z, _, aj, _, Z, ?_⟩
 exact .v (.agg (aC Z))
theorem y3 : MQ h1 h2 176 [cM t] [] (Plain (cM t)) := by
 refine MC.data (jB 9 h1 h2 Tryz.func176 Z Z Z fun O hF => ?_)
 refine ae (jx O Z (jl O Z (jn (ag (jS O [_,_,_,_,_,_,_] [pn [] 0 1, pn [0] 0 1, pn [] 0 0, pn [2] 0 0, pe [2,3] 0, pn (rg 0 5) 1 1, pe (rg 0 6) 1] [4,6] [_,_,_] (ai (kc O Z (V O Z)) (ai (kc O Z (V O Z)) (kc O Z (kc O Z (ai (aW O (B0 := 8000) Z Z Z Z (xh (xs := t.xs) h1 h2) (aa Z) Z Z Z Z Z) (kc O Z (ai (eS O Z Z Z) trivial))))))) ?_)))))
 refine i6 ?_
 refine ⟨.inl Z, _, aj, _, Z, ?_⟩
 exact .v (.agg (aC Z))
theorem mK : MQ h1 h2 81 [cm ts] [] (Rows (.c (.rs 0 0 ts.length)) [ao ts]) := by
 refine bm (jB 20 h1 h2 Tryz.func81 Z Z Z fun O hF => ?_)
 have hl : ts.length ≤ L := by simpa [As.fact, A.fact, M.fact, D.fact, Ds.fact] using hF.1.1
 refine ae (js O Z (aN (AOps.heap (bi O Z Z Z) Z (js O Z (jn (ag (ae (js O Z (jn (am (au (X := Nat) (fun i => ⟨[(0, cm ts), (3, .c (.rs 900 0 i)), (4, eI i)], [(900, ao (ts.take i))]⟩) (fun i => i ≤ ts.length) (fun i => ts.length - i) 0 ((ck 5 Z).trans ((af 5 900 Z Z).trans (Ent.to ⟨Z, Z, Z, trivial⟩ Z))) ?_ (fun i hi => ?_))))))))))))
 exact cC _
 refine ag (ae (j2 O Z Z (bw O Z (js O Z (jf [9,0,3,4] Z (jn (ab O Z Z (fun hc9 => ?_) (fun hc9 => ?_))))))))
 try simp only [aJ] at hc9
 refine ah (ag (am (ak (j3 O Z Z Z (ir O Z Z (jf [15,12,9,0,3,4] Z (ax O Z Z Z Z (uu h1 h2) (aa Z) Z Z Z Z (B0 := 17000) Z Z (jf [16,12,9,0,3,4] Z (AOps.heap (dy O Z Z Z Z Z Z Z Z Z Z Z) Z (jf [17,12,9,0,3,4] Z (AOps.heap (bI (own := false) (zs := (ts.take (i + 1)).map Tm.cells) (n := i + 1) O Z Z Z Z Z Z Z Z Z Z Z Z Z Z Z Z (.row Z (by simp; omega)) (.whole Z Z (.inr ⟨Z, Z⟩)) (by simp) Z (by simp; omega) (by simp; omega) (by rw [List.take_succ_eq_append_getElem (by omega), List.map_append, Int.toNat_natCast, aw (by omega)]; rfl) (by simp; omega)) Z (js O Z (jf [3,9,0,4] Z (jn (ak (js O Z (ji O Z (js O Z (jf [4,3,9,0] Z (jn ?_))))))))))))))))))))
 refine ⟨i + 1, (av [18] (e' := [(0, _), (3, _), (4, _)]) Z Z ⟨Z, Z, Z, trivial⟩ Z).trans (af 18 900 Z Z), by omega, by omega⟩
 try simp only [aJ] at hc9
 refine aU (ae (j2 O Z Z (jr ?_)))
 obtain rfl : i = ts.length := by omega
 rw [List.take_length]
 refine ⟨.inl Z, _, aj, _, Z, [900], by decide, Z, Z, Z⟩
theorem sF {L : Nat} (h1 : 4096 ≤ L) (h2 : L ≤ 1073741824) {ts : List Tm} : MC Tryz.prog L 81 [cm ts] [] (Plain (cm ts)) := (mK h1 h2).frozen (.v (.c (.whole rfl (bJ _).symm)))
def dC (xs : List Int) : List Int := (xs.reverse.dropWhile (· == 0)).reverse
theorem pT {xs : List Int} : dC (xs ++ [0]) = dC xs := by simp [dC]
theorem pU {xs : List Int} {x : Int} (h : x ≠ 0) : dC (xs ++ [x]) = xs ++ [x] := by simp [dC, h]
theorem lq {xs : List Int} {n : Nat} (h : n < xs.length) (h0 : xs.getD n default = 0) : dC (xs.take (n + 1)) = dC (xs.take n) := by
 rw [List.take_succ_eq_append_getElem h, ← aw h, h0, pT]
theorem lr {xs : List Int} {n : Nat} (hn : n ≤ xs.length) (h : n = 0 ∨ xs.getD (n - 1) default ≠ 0) : dC (xs.take n) = xs.take n := by
 cases n with
 | zero => simp [dC]
 | succ n =>
  have h' : xs.getD n default ≠ 0 := by
   rcases h with h | h
   cases h
   exact h
  rw [aw (by omega)] at h'
  rw [List.take_succ_eq_append_getElem (by omega), pU h']
def qu (c : Int) (xs : List Int) : Tm × Bool := if (Tm.mk c (dC xs)).ok = true then (⟨c, dC xs⟩, true) else (⟨0, []⟩, false)
abbrev eM (r : Tm × Bool) : A := .tup [cM r.1, eB r.2]
def fQ (a : Tm) (m : Int) (b : Tm) (n : Int) : List Int := (List.range 10).map fun i => m * a.xs.getD i 0 + n * b.xs.getD i 0
def j7 (a : Tm) (m : Int) (b : Tm) (n : Int) : Tm × Bool := qu (m * a.c + n * b.c) (fQ a m b n)
def bM (t : Tm) : Tm × Bool := j7 t (-1) ⟨1, []⟩ (-1)
structure Small (t : Tm) : Prop where
  c : num t.c = true
  xs : t.xs.all num = true
theorem ej {a b : Int} (h1 : num a = true) (h2 : num b = true) : -1000000000000 ≤ a * b ∧ a * b ≤ 1000000000000 := by
 have h1 := xP.1 h1
 have h2 := xP.1 h2
 have h3 : a.natAbs ≤ 1000000 := by omega
 have h4 : b.natAbs ≤ 1000000 := by omega
 have h5 := Nat.mul_le_mul h3 h4
 rw [← Int.natAbs_mul] at h5
 omega
theorem Small.get {t : Tm} (h : Small t) (i : Nat) : num (t.xs.getD i 0) = true := by
 by_cases hi : i < t.xs.length
 have : t.xs.getD i 0 = t.xs[i] := by simp [hi]
 rw [this]
 exact List.all_eq_true.1 h.xs _ (List.getElem_mem hi)
 have : t.xs.getD i 0 = 0 := by simp [Nat.not_lt.1 hi]
 rw [this]; decide
theorem Small.of {t : Tm} (h : t.ok = true) : Small t := by
 simp only [Tm.ok, bA, Bool.not_eq_true'] at h
 refine ⟨?_, h.2⟩
 cases hn : num t.c with
 | true => rfl
 | false => rw [hn] at h; simp at h
theorem pV {a b : Tm} {m n : Int} {i : Nat} (h : i < 10) : (fQ a m b n).take (i + 1) = (fQ a m b n).take i ++ [m * a.xs.getD i 0 + n * b.xs.getD i 0] := by
 rw [List.take_succ_eq_append_getElem (by simpa [fQ] using h)]
 simp [fQ]
theorem dh {a b : Tm} {m n : Int} : (fQ a m b n).length = 10 := by simp [fQ]
theorem kl {t : Tm} (h : t.ok = true) : t.xs.length ≤ 10 := by
 simp only [Tm.ok, bA, Bool.not_eq_true'] at h
 by_cases h1 : (10 : Int) < t.xs.length
 rw [decide_eq_true h1] at h
 cases num t.c <;> simp at h
 omega
theorem wn {c : Int} : MQ h1 h2 158 [eI c, cw xs] [] (Plain (eM (qu c xs))) := by
 refine MC.data (jB 32 h1 h2 Tryz.func158 Z Z Z fun O hF => ?_)
 have hl : xs.length ≤ L := by simpa [As.fact, A.fact, M.fact, D.fact, Ds.fact] using hF.2.1.1
 refine ae (jl O Z (js O Z (aN (js O Z (bw O Z (js O Z (jf [6,5,4,0,1] Z (jn (ag (am (au (X := Nat) (fun n => ⟨[(0, eI c), (1, cw xs), (4, .c (.pt 4 0 0)), (6, eI n)], [(4, .box [.d (.int .i64 0), .d .nils])]⟩) (fun n => n ≤ xs.length ∧ dC (xs.take n) = dC xs) (fun n => n) xs.length (Ent.env ⟨Z, Z, Z, Z, trivial⟩) ?_ (fun n hi => ?_))))))))))))
 exact ⟨bH _, by rw [List.take_length]⟩
 refine ag (ae (j3 O Z Z Z (jf [12,0,1,4,6] Z (aR 6 Z Z Z (fun hx => AN.step hx Z Z Z (V O Z) Z Z ( AN.step hx Z Z Z (V O Z) Z Z ( AN.step hx Z Z Z (vF O Z) Z Z ( AN.step hx Z Z Z (vD O Z) Z Z ( AN.step hx Z Z Z (V O Z) Z Z ( AN.step hx Z Z Z (V O Z) Z Z ( AN.nil))))))) Z Z (AOps.step (aK O Z Z Z Z Z) Z Z Z (jf [19,0,1,4,6] Z (jn (ab O Z Z (fun hc19 => ?_) (fun hc19 => ?_)))))))))
 refine ah (am (ak (js O Z (ji O Z (js O Z (jf [6,19,0,1,4] Z (jn ?_)))))))
 rw [Bool.cond_false_right, bA, decide_eq_true_eq, decide_eq_true_eq] at hc19
 obtain ⟨k, hk⟩ : ∃ k, n = k + 1 := ⟨n - 1, by omega⟩
 subst hk
 have hk2 : ((k + 1 : Nat) : Int) - 1 = k := by omega
 rw [hk2] at hc19
 refine ⟨k, Ent.to ⟨Z, Z, Z, by rw [hk2]; rfl, trivial⟩ Z, ⟨by omega, ?_⟩, Nat.lt_succ_self k⟩
 rw [← hi.2, lq (by omega) (by simpa using hc19.2)]
 refine aU (ae (j3 O Z Z Z ?_))
 have hd : dC (xs.take n) = xs.take n := lr hi.1 (by
  rw [Bool.cond_false_right] at hc19
  rcases Nat.eq_zero_or_pos n with h0 | h0
  ·
   exact .inl h0
  ·
   refine .inr (fun h9 => ?_)
   have e1 : ((n : Int) - 1).toNat = n - 1 := by omega
   rw [e1, h9] at hc19; simp at hc19; omega)
 have ht := hi.2
 rw [hd] at ht
 refine AOps.step ((aP O Z Z ⟨by omega, by simp; omega⟩).cast (v' := cw (dC xs)) (by rw [← ht]; simp [List.map_take])) Z Z Z (jf [25,22,19,0,1,4,6] Z (ax O Z Z Z Z (oR (xs := dC xs) h1 h2) (aa Z) Z Z Z Z (B0 := 27000) Z Z (js O Z (jf [27,19,0,1,4,6] Z (jl O Z (jo O Z (jn (ag (ae (ac O Z Z Z Z (sN (t := ⟨c, dC xs⟩) h1 h2) (.cons (.c (.pb (cs := Tm.cells ⟨c, dC xs⟩) Z (aC Z))) .nil) Z Z Z Z Z (B0 := 29000) Z (js O Z (jn (ab O Z Z (fun hc29 => ?_) (fun hc29 => ?_))))))))))))))
 refine ae (js O Z (jo O Z (js O Z (jr ?_))))
 refine ⟨.inl Z, _, aj, _, Z, ?_⟩
 have hok : (Tm.mk c (dC xs)).ok = false := by simpa using hc29
 rw [show qu c xs = (⟨0, []⟩, false) from if_neg (by rw [hok]; decide)]
 exact .tup (.cons (.agg (.cons .d (.cons .nils .nil))) (.cons (.c .d) .nil))
 refine ah (ae (js O Z (jo O Z (js O Z (jr ?_)))))
 refine ⟨.inl Z, _, aj, _, Z, ?_⟩
 have hok : (Tm.mk c (dC xs)).ok = true := by simpa using hc29
 rw [show qu c xs = (⟨c, dC xs⟩, true) from if_pos hok]
 exact .tup (.cons (.agg (aC Z)) (.cons (.c .d) .nil))
theorem wk {i : Nat} (hi : i < 10) : MQ h1 h2 159 [ptr t.cells, eI i] [] (Plain (eI (t.xs.getD i 0))) := by
 refine aB ?_ Z
 refine jB 19 h1 h2 Tryz.func159 Z Z Z fun O hF => ?_
 have hl : t.xs.length ≤ L := by simpa [As.fact, A.fact, M.fact, D.fact, Ds.fact] using hF.1.2.1.1
 refine ae (js O Z (jn (ag (ae (j4 O Z Z Z Z (js O Z (bw O Z (js O Z (jf [11,4,0,1] Z (jn (ab O Z Z (fun hc11 => ?_) (fun hc11 => ?_))))))))))))
 try simp only [aJ] at hc11
 refine ae (j4 O Z Z Z Z (js O Z (ir O Z Z (j2 O Z Z (jf [4,0,1] Z (jr ?_))))))
 refine ⟨.inl Z, _, aj, _, Z, ?_⟩
 rw [Int.toNat_natCast]
 have : t.xs.getD i 0 = t.xs.getD i default := rfl
 rfl
 try simp only [aJ] at hc11
 refine ah (ae (js O Z (jr ?_)))
 refine ⟨.inl Z, _, aj, _, Z, ?_⟩
 have : t.xs.getD i 0 = 0 := by simp [show t.xs.length ≤ i by omega]
 rw [this]
theorem sK {a b : Tm} {m : Int} (ha : Small a) (hb : Small b) (hm : num m = true) (hn : num n = true) : MQ h1 h2 135 [ptr a.cells, eI m, ptr b.cells, eI n] [] (Plain (eM (j7 a m b n))) := by
 refine MC.data (jB 48 h1 h2 Tryz.func135 Z Z Z fun O hF => ?_)
 refine ae (jl O Z (js O Z (aN (AOps.heap (bi O Z Z Z) Z (js O Z (jn (ag (ae (js O Z (jn (am (au (X := Nat) (fun i => ⟨[(0, ptr a.cells), (1, eI m), (2, ptr b.cells), (3, eI n), (8, .c (.pt 8 0 0)), (10, .c (.rs 900 0 i)), (11, eI i)], [(8, .box [.d (.int .i64 0), .d .nils]), (900, aE ((fQ a m b n).take i))]⟩) (fun i => i ≤ 10) (fun i => 10 - i) 0 ((af 12 900 Z Z).trans (Ent.to ⟨Z, Z, Z, Z, Z, Z, Z, trivial⟩ Z)) ?_ (fun i hi => ?_)))))))))))))
 exact cC _
 refine ag (ae (j2 O Z Z (jn (ab O Z Z (fun hc14 => ?_) (fun hc14 => ?_)))))
 try simp only [aJ] at hc14
 refine ah (ag (am (ak ?_)))
 have q1 := ej hm (ha.get i)
 have q2 := ej hn (hb.get i)
 refine j4 O Z Z Z Z (ac O Z Z Z Z (wk (t := a) (i := i) h1 h2 (by omega)) (aa Z) Z Z Z Z Z (B0 := 22000) Z (ji O Z (j3 O Z Z Z (jf [25,24,23,22,17,14,13,0,1,2,3,8,10,11] Z (ac O Z Z Z Z (wk (t := b) (i := i) h1 h2 (by omega)) (aa Z) Z Z Z Z Z (B0 := 27000) Z (ji O Z (ji O Z (jf [28,17,14,13,0,1,2,3,8,10,11] Z (AOps.heap (bi O Z Z Z) Z (jf [29,17,14,13,0,1,2,3,8,10,11] Z (AOps.heap (ce (zs := ((fQ a m b n).take (i + 1)).map fun n => [.int .i64 n]) (n := i + 1) O Z Z Z Z Z Z Z Z Z Z Z Z Z Z Z Z (.row Z (by simp [dh]; omega)) Z Z (by decide) Z (by simp [dh]; omega) (by simp [dh]; omega) (by rw [pV (by omega), List.map_append]; rfl) (by simp [dh]; omega)) Z (js O Z (jf [10,14,13,0,1,2,3,8,11] Z (jn (ak (js O Z (ji O Z (js O Z (jf [11,10,14,13,0,1,2,3,8] Z (jn ?_))))))))))))))))))))
 refine ⟨i + 1, ((av [8,30] (e' := [(0, _), (1, _), (2, _), (3, _), (8, _), (10, _), (11, _)]) Z Z ⟨Z, Z, Z, Z, Z, Z, Z, trivial⟩ Z).trans (af 30 900 Z Z)), by omega, by omega⟩
 try simp only [aJ] at hc14
 refine aU (ag ?_)
 obtain rfl : i = 10 := by omega
 rw [List.take_of_length_le (by rw [dh]; decide)]
 have q1 := ej hm ha.c
 have q2 := ej hn hb.c
 refine gx (Ent.freeze 900 (e' := [(10, _), (8, _), (0, _), (1, _), (2, _), (3, _)]) Z (.cons Z (.c (.row Z (by simp [dh]))) (fe [8,0,1,2,3] Z)) (.cons Z (.box (fk Z)) (.skip .nil))) ?_
 refine jS O [_,_,_,_,_,_,_,_,_,_,_,_,_,_,_,_,_,_,_] [pn [] 0 0, pn [] 0 0, pn [1] 0 0, pn [1,2] 0 0, pn [1,2,3] 0 0, pn (rg 0 5) 0 0, pn [] 0 0, pn [] 0 0, pn [7] 0 0, pn [7,8] 0 0, pn [7,8,9] 0 0, pn (rg 6 5) 0 0, pn (rg 0 12) 0 0, pn [] 0 0, pe (rg 0 14) 0, pn (rg 0 15) 1 1, pn (rg 0 15) 1 1, pe (rg 0 17) 1, pn (rg 0 18) 2 2] [14,17] [_,_,_] (kc O Z (kc O Z (kc O Z (kc O Z (kc O Z (ai (vF O Z) (kc O Z (kc O Z (kc O Z (kc O Z (kc O Z (ai (vF O Z) (ai (vF O Z) (kc O Z (ai (aW O (B0 := 46000) Z Z Z Z (wn (c := m * a.c + n * b.c) (xs := fQ a m b n) h1 h2) (aa Z) Z Z Z Z Z) (kc O Z (kc O Z (ai (eS O Z Z Z) (kc O Z trivial))))))))))))))))))) ?_
 refine jw [9,10,8,0,1,2,3] Z (ct ?_)
 refine i6 ?_
 refine ⟨.inl Z, _, aj, _, Z, ?_⟩
 exact .tup (.cons (.agg (aC Z)) (.cons (.c .d) .nil))
theorem yS (ht : Small t) : MQ h1 h2 119 [ptr t.cells] [] (Plain (eM (bM t))) := by
 refine MC.data (jB 10 h1 h2 Tryz.func119 Z Z Z fun O hF => ?_)
 refine ae (jl O Z (js O Z (aN (j2 O Z Z (jf [5,4,3,2] Z (jx O Z (jf [6,4,3,2] Z (ay (Ent.freeze 6 (e' := [(6, _), (4, _), (2, _)]) Z (.cons Z (.c (.box (cs := Tm.cells ⟨1, []⟩) Z (.cons .d (.cons .nils .nil)))) (fe [4,2] Z)) (.cons Z (.box (fk Z)) (.skip .nil))) ?_))))))))
 refine ax O Z Z Z Z (sK (a := t) (m := -1) (b := ⟨1, []⟩) (n := -1) h1 h2 ht ⟨by decide, by decide⟩ (by decide) (by decide)) (aa Z) Z Z Z Z (B0 := 8000) Z Z (j2 O Z Z (jf [9,8,2] Z (jo O Z (js O Z (jf [3,2] Z (jr ?_))))))
 refine ⟨.inl Z, _, aj, _, Z, ?_⟩
 exact .tup (.cons (.agg (aC Z)) (.cons (.c .d) .nil))
def ee (ts : List Tm) (n : Int) : Bool := ts.all Tm.ok && decide ((ts.length : Int) ≤ n)
def k8 (s : Sq) : Bool := ee s.facts 13 && s.goal.ok
def dl (k : Int) : Int := if k = 1 then -1 else if k = 2 then 1 else 0
def wg : List Nd → Int → Option Nat
  | [], need => if need ≤ 0 then some 0 else none
  | s :: r, need => if need ≤ 0 then some 0 else (wg r (need + dl s.kind)).map (· + 1)
def yJ (p : List Nd) (k : Nat) : Int := match wg (p.drop k) 1 with
  | some n => k + n
  | none => -1
def vP (p : List Nd) (k : Nat) : Nat → Int × Bool
  | 0 => (-1, false)
  | i + 1 => if (p.getD i default).kind = 1 ∨ yJ p i ≤ k then vP p k i else (i, decide (i + 1 = k))
theorem y4 : MQ h1 h2 120 [cm ts, eI n] [] (Plain (eB (ee ts n))) := by
 refine aB ?_ Z
 refine jB 21 h1 h2 Tryz.func120 Z Z Z fun O hF => ?_
 have hl : ts.length ≤ L := by simpa [As.fact, A.fact, M.fact, D.fact, Ds.fact] using hF.1.1
 refine ae (js O Z (jn (ag (ae (js O Z (jn (am (au (X := Nat) (fun i => ⟨[(0, cm ts), (1, eI n), (5, eI i)], []⟩) (fun i => i ≤ ts.length ∧ ∀ j (h : j < ts.length), j < i → Tm.ok ts[j] = true) (fun i => ts.length - i) 0 (Ent.env ⟨Z, Z, Z, trivial⟩) ?_ (fun i hi => ?_)))))))))
 exact ⟨cC _, fun j h hj => absurd hj (Nat.not_lt_zero j)⟩
 refine ag (ae (j2 O Z Z (bw O Z (js O Z (jn (ab O Z Z (fun hc9 => ?_) (fun hc9 => ?_)))))))
 try simp only [aJ] at hc9
 refine ah (ag (am (ae (j2 O Z Z (ir O Z Z (ac O Z Z Z Z (sN h1 h2) (aa Z) Z Z Z Z Z (B0 := 16000) Z (js O Z (jn (ab O Z Z (fun hc16 => ?_) (fun hc16 => ?_))))))))))
 try simp only [aJ] at hc16
 refine ae (js O Z (jr ?_))
 refine ⟨.inl Z, _, aj, _, Z, ?_⟩
 rw [Int.toNat_natCast, aw (by omega)] at hc16
 rw [ee, eQ i (by omega) hc16, Bool.false_and]
 try simp only [aJ] at hc16
 refine ah (ak (js O Z (ji O Z (js O Z (jn ?_)))))
 refine ⟨i + 1, Ent.env ⟨Z, Z, Z, trivial⟩, ⟨by omega, fun j h hj => ?_⟩, by omega⟩
 by_cases e : j = i
 subst e; rw [Int.toNat_natCast, aw h] at hc16; exact hc16
 exact hi.2 j h (by omega)
 try simp only [aJ] at hc9
 refine aU (ae (js O Z (bw O Z (j3 O Z Z Z (jr ?_)))))
 refine ⟨.inl Z, _, aj, _, Z, ?_⟩
 rw [ee, fB (fun j hj => hi.2 j hj (by omega)), Bool.true_and]
theorem c82 {s : Sq} : MQ h1 h2 83 [ptr s.cells] [] (Plain (eB (k8 s))) := by
 refine aB ?_ Z
 refine jB 14 h1 h2 Tryz.func83 Z Z Z fun O hF => ?_
 refine ae (js O Z (aN (j4 O Z Z Z Z (cR [(6, _), (2, _), (0, _)] [] ⟨Z, Z, Z, trivial⟩ Z (ac O Z Z Z Z (y4 h1 h2) (aa Z) Z Z Z Z Z (B0 := 8000) Z (js O Z (cR [(8, _), (2, _), (0, _)] [] ⟨Z, Z, Z, trivial⟩ Z (aR 4 Z Z Z (fun hx => AN.step hx Z Z Z (V O Z) Z Z ( AN.step hx Z Z Z (V O Z) Z Z ( AN.step hx Z Z Z (V O Z) Z Z ( db O hx Z Z Z Z (sN (t := s.goal) h1 h2) (.cons (.c (.sub Z)) .nil) Z Z Z Z Z Z Z (B0 := 13000) Z ( AN.nil))))) Z Z (AOps.step (aK O Z Z Z Z Z) Z Z Z (js O Z (jf [2] Z (jr ?_))))))))))))
 refine ⟨.inl Z, _, aj, _, Z, ?_⟩
 rw [Bool.cond_false_right]; rfl
def qO (xs : List Int) : Nat := xs.foldl (fun g x => Nat.gcd g x.natAbs) 0
def mx (a b : Int) : Int := if a > b then a else b
def rf (t : Tm) : Tm × Bool := if qO t.xs < 2 then (⟨0, []⟩, false) else
  qu (if t.c.tmod (qO t.xs) < 0 then t.c.tdiv (qO t.xs) - 1 else t.c.tdiv (qO t.xs)) (t.xs.map fun x => x.tdiv (qO t.xs))
def vz (n : Nd) (ctx : List Tm) (first : Bool) : List Tm := if n.kind = 3 then ctx ++ [(rf (ctx.getD n.fact.toNat default)).1] else if first = true then ctx ++ [n.term] else ctx ++ [(bM n.term).1]
def b9 (f : Tm → Int) : List Tm → List Int → Int
  | t :: ts, m :: ms => m * f t + b9 f ts ms
  | _, _ => 0
theorem fp {f : Tm → Int} : ∀ {ts : List Tm} {ms : List Int} {i : Nat}, i < ts.length → i < ms.length → b9 f (ts.take (i + 1)) (ms.take (i + 1)) = b9 f (ts.take i) (ms.take i) + ms.getD i default * f (ts.getD i default)
 | [], _, i, h, _ => by simp at h
 | _ :: _, [], i, _, h => by simp at h
 | x :: xs, y :: ys, 0, _, _ => by simp [b9]
 | x :: xs, y :: ys, i + 1, h1, h2 => by
  have := fp (f := f) (ts := xs) (ms := ys) (i := i) (by simpa using h1) (by simpa using h2)
  simp only [List.take_succ_cons, b9, List.getD_cons_succ] at this ⊢
  omega
theorem iE {f : Tm → Int} {ts : List Tm} {ms : List Int} (hf : ∀ t ∈ ts, num (f t) = true) (hm : ms.all num = true) : ∀ {i : Nat}, i ≤ ts.length → i ≤ ms.length → -(i * 1000000000000 : Int) ≤ b9 f (ts.take i) (ms.take i) ∧ b9 f (ts.take i) (ms.take i) ≤ i * 1000000000000
 | 0, _, _ => by simp [b9]
 | i + 1, h1, h2 => by
  have ih := iE hf hm (i := i) (by omega) (by omega)
  rw [fp (by omega) (by omega)]
  have a1 := hf _ (List.getElem_mem (show i < ts.length by omega))
  have a2 := List.all_eq_true.1 hm _ (List.getElem_mem (show i < ms.length by omega))
  have := ej a2 a1
  rw [aw (by omega), aw (by omega)]
  omega
abbrev mJ (k : Nat) : Tm → Int := fun t => t.xs.getD k 0
def bR (ts : List Tm) (ms : List Int) : List Int := (List.range 10).map fun k => b9 (mJ k) ts ms
def tA (ctx : List Tm) (ms : List Int) : Bool := decide (ctx.length = ms.length) && ((bR ctx ms).all (fun x => decide (x = 0)) && decide (b9 Tm.c ctx ms < 0))
def rn (n : Nd) (ctx : List Tm) : Bool := if n.kind = 1 then tA ctx n.mul else if 20 ≤ ctx.length then false else if n.kind = 2 then (bM n.term).2 else if n.fact ≥ ctx.length then false else (rf (ctx.getD n.fact.toNat default)).2

def dX (ts : List Tm) (ms : List Int) (i j : Nat) : List Int := (List.range 10).map fun k => b9 (mJ k) (ts.take i) (ms.take i) + (if k < j then ms.getD i default * (ts.getD i default).xs.getD k 0 else 0)
theorem di {ts ms i j} : (dX ts ms i j).length = 10 := by simp [dX]
theorem lw {ts ms i} : dX ts ms i 0 = bR (ts.take i) (ms.take i) := by simp [dX, bR]
theorem kt {ts ms i j} (h : j < 10) : (dX ts ms i j).getD j default = b9 (mJ j) (ts.take i) (ms.take i) := by
 rw [aw (by rw [di]; exact h)]
 simp [dX]
theorem lx {ts ms i j} (h : j < 10) : (dX ts ms i j).set j ((dX ts ms i j).getD j default + ms.getD i default * (ts.getD i default).xs.getD j default) = dX ts ms i (j + 1) := by
 rw [kt h]
 apply List.ext_getElem?
 intro k
 rw [List.getElem?_set]
 by_cases hk : k < 10
 by_cases e : j = k
 subst e
 rw [if_pos Z, if_pos (by rw [di]; exact h)]
 simp [dX, h]
 rw [if_neg e]
 have h3 : (k < j + 1) = (k < j) := by apply propext; omega
 simp only [dX, List.getElem?_map, List.getElem?_range hk, Option.map_some, h3]
 have h1 : (dX ts ms i j)[k]? = none := List.getElem?_eq_none (by rw [di]; omega)
 have h2 : (dX ts ms i (j + 1))[k]? = none := List.getElem?_eq_none (by rw [di]; omega)
 rw [if_neg (by omega), h1, h2]
theorem m1 {ts ms i j} (h1 : i < ts.length) (h2 : i < ms.length) (h : (ts.getD i default).xs.length ≤ j) : dX ts ms i j = bR (ts.take (i + 1)) (ms.take (i + 1)) := by
 unfold dX bR
 apply List.map_congr_left
 intro k hk
 rw [fp h1 h2]
 by_cases e : k < j
 rw [if_pos e]
 rw [if_neg e]
 show _ + 0 = _ + _ * (ts.getD i default).xs.getD k 0
 rw [show (ts.getD i default).xs.getD k 0 = 0 by rw [List.getD_eq_getElem?_getD, List.getElem?_eq_none (by omega)]; rfl, Int.mul_zero]
theorem iY {ts ms} : (bR ts ms).length = 10 := by simp [bR]
structure CtxOk (ctx : List Tm) : Prop where
  ok : ∀ t ∈ ctx, t.ok = true
  len : ctx.length ≤ 1000
theorem CtxOk.get {ctx : List Tm} (h : CtxOk ctx) {i : Nat} (hi : i < ctx.length) : (ctx.getD i default).ok = true := by rw [aw hi]; exact h.ok _ (List.getElem_mem hi)
end Go.Al
