/- Programs and their validity; the reference's functions for cf. -/
import Derived.Test.YtikejfdfkemmmaaGreatD
set_option linter.unusedVariables false
set_option linter.unusedSimpArgs false
set_option maxRecDepth 10000
open Go.Proofs
namespace Go.Al
variable {L : Nat} (h1 : 4096 ≤ L) (h2 : L ≤ 1073741824)
def Tm.term (t : Tm) : Bool := t.ok && decide ((t.xs.length : Int) ≤ 4)
def cf (ts : List Tm) (n : Int) : Bool := ts.all Tm.term && decide ((ts.length : Int) ≤ n)
def wc (k : Int) : Int := if k = 1 then 2 else if k = 7 then 2 else if k = 8 then 1 else 0
def Tm.zero (t : Tm) : Bool := decide (t.c = 0) && decide ((t.xs.length : Int) = 0)

def AO (s : Sm) : Bool := bif bif bif bif decide (s.kind = 2) then true else decide (s.kind = 4) then true else decide (s.kind = 6) then true else decide (s.kind = 7) then true else decide (s.kind = 8)
def AQ (s : Sm) : Bool := bif decide (s.kind = 3) then true else decide (s.kind = 4)
def x0 (s : Sm) : Bool := bif decide (s.kind = 2) then true else decide (s.kind = 3)
def sB1 (s : Sm) : Bool := bif bif bif !(decide (0 ≤ s.kind) && decide (s.kind ≤ 8)) then true else !s.sum.term then true else !s.index.term then true else !cf s.facts 6
def sB2 (s : Sm) : Bool := bif bif bif !AO s then !s.sum.zero else false then true else bif !AQ s then !s.index.zero else false then true else bif !decide (s.kind = 8) then decide ((0 : Int) < s.facts.length) else false
def sB3 (s : Sm) : Bool := bif bif x0 s then !(decide (0 ≤ s.var) && decide (s.var ≤ 3)) else false then true else bif !x0 s then !decide (s.var = 0) else false
def vo (s : Sm) : Bool := bif sB1 s then false else bif sB2 s then false else bif sB3 s then false else bif decide (s.kind = 5) then (decide (0 ≤ s.event) && decide (s.event ≤ 3)) else decide (s.event = 0)
def Aj (x : Int) : Bool := decide (-1000000000 ≤ x) && decide (x ≤ 1000000000)
def vr (xs : List Int) (n : Int) : Bool := xs.all Aj && decide ((xs.length : Int) = n)
def BE : List Int → List Int → Int
  | x :: xs, y :: ys => x * y + BE xs ys
  | _, _ => 0
def i4 (t : Tm) (vars : List Int) : Int := t.c + BE t.xs vars
theorem z7 {x : Int} : num x = true ↔ -1000000 ≤ x ∧ x ≤ 1000000 := by simp [num]
abbrev cU (t : Tm) : A := .agg (t.cells.map .d)
def da (lo hi x : Int) : Bool := decide (lo ≤ x) && decide (x ≤ hi)

variable {x : Int}
theorem nU {lo hi : Int} : MQ h1 h2 131 [eI x, eI lo, eI hi] [] (Plain (eB (da lo hi x))) := by
 refine aA ?_ Z
 refine jB 15 h1 h2 Tryz.func131 Z Z Z fun O hF => ?_
 refine ac (js O Z (aP (j4 O Z Z Z Z (aS 3 Z Z Z (fun hx => AN.step hx Z Z Z (V O Z) Z Z ( AN.step hx Z Z Z (V O Z) Z Z ( AN.step hx Z Z Z (V O Z) Z Z ( AN.nil)))) Z Z (AOps.step (aM O Z Z Z Z Z) Z Z Z (js O Z (jr ?_)))))))
 refine ⟨.inl Z, _, ak, _, Z, ?_⟩
 rw [Bool.cond_false_right]; rfl
variable {xs : List Int}
theorem yo {lo hi : Int} : MQ h1 h2 132 [bM xs, eI lo, eI hi] [] (Plain (eB (xs.all (da lo hi)))) := by
 refine aA ?_ Z
 refine jB 21 h1 h2 Tryz.func132 Z Z Z fun O hF => ?_
 have hl : xs.length ≤ L := by simpa [As.fact, A.fact, M.fact, D.fact, Ds.fact] using hF.1.1
 refine ac (js O Z (jn (af (ac (js O Z (bo O Z (js O Z (jn (am (ap (X := Nat) (fun i => ⟨[(1, eI lo), (2, eI hi), (9, bM xs), (10, eI xs.length), (11, eI i)], []⟩) (fun i => i ≤ xs.length ∧ ∀ j (h : j < xs.length), j < i → da lo hi xs[j] = true) (fun i => xs.length - i) 0 (Ent.env ⟨Z, Z, Z, Z, Z, trivial⟩) ?_ (fun i hi => ?_)))))))))))
 exact ⟨cm _, fun j h hj => absurd hj (Nat.not_lt_zero j)⟩
 refine ac (js O Z (jn (af (ab O Z Z (fun hc12 => ?_) (fun hc12 => ?_)))))
 try simp only [aN] at hc12
 refine ah (af (am (ac (f7 O Z Z (j2 O Z Z (aP (j3 O Z Z Z (ae O Z Z Z Z (nU h1 h2) (aa Z) Z Z Z Z Z (B0 := 19000) Z (js O Z (jn (ab O Z Z (fun hc19 => ?_) (fun hc19 => ?_))))))))))))
 try simp only [aN] at hc19
 refine ac (js O Z (jr ?_))
 refine ⟨.inl Z, _, ak, _, Z, ?_⟩
 rw [Int.toNat_natCast, ar (by omega)] at hc19
 rw [gU i (by omega) hc19]
 try simp only [aN] at hc19
 refine ah (aj (ji O Z (js O Z (jn ?_))))
 refine ⟨i + 1, Ent.env ⟨Z, Z, Z, Z, Z, trivial⟩, ⟨by omega, fun j h hj => ?_⟩, by omega⟩
 by_cases e : j = i
 subst e; rw [Int.toNat_natCast, ar h] at hc19; exact hc19
 exact hi.2 j h (by omega)
 try simp only [aN] at hc12
 refine aQ (ac (js O Z (jr ?_)))
 refine ⟨.inl Z, _, ak, _, Z, ?_⟩
 rw [j7 (fun j hj => hi.2 j hj (by omega))]
theorem uk : MQ h1 h2 157 [eI x] [] (Plain (eB (num x))) := by
 refine aA ?_ Z
 refine jB 5 h1 h2 Tryz.func157 Z Z Z fun O hF => ?_
 refine ac (js O Z (aP (js O Z (ae O Z Z Z Z (nU h1 h2) (aa Z) Z Z Z Z Z (B0 := 5000) Z (js O Z (jr ?_))))))
 refine ⟨.inl Z, _, ak, _, Z, ?_⟩
 first | rfl | skip
theorem uv (t : Tm) : (bif bif bif decide ((t.xs.length : Int) ≤ 10) then num t.c else false then t.xs.all num else false then bif decide ((t.xs.length : Int) = 0) then true else !decide (t.xs.getD ((t.xs.length : Int) - 1).toNat default = 0) else false) = t.ok := by
 unfold Tm.ok
 cases num t.c <;> cases t.xs.all num <;> simp
 by_cases h0 : t.xs = []
 simp [h0]
 have h1 : 0 < t.xs.length := List.length_pos_iff.2 h0
 by_cases h2 : (t.xs.length : Int) ≤ 10
 have h3 : ¬ (10 : Int) < t.xs.length := by omega
 simp [h0, h1, h2, h3]
 have h3 : (10 : Int) < t.xs.length := by omega
 simp [h2, h3]
variable {t : Tm}
theorem mh : MQ h1 h2 130 [cU t] [] (Plain (eB t.ok)) := by
 refine aA ?_ Z
 refine jB 32 h1 h2 Tryz.func130 Z Z Z fun O hF => ?_
 have hl : t.xs.length ≤ L := by simpa [As.fact, A.fact, M.fact, Ms.fact, D.fact, Ds.fact] using hF.1.2.1.1
 refine ac (jx O Z (js O Z (aP (j2 O Z Z (bo O Z (js O Z (jf [3,2,1,0] Z (aP (j3 O Z Z Z (jf [9,3,2,1,0] Z (aS 3 Z Z Z (fun hx => AN.step hx Z Z Z (V O Z) Z Z ( AN.step hx Z Z Z (V O Z) Z Z ( dI O hx Z Z Z Z (uk h1 h2) (aa Z) Z Z Z Z Z Z Z (B0 := 13000) Z ( AN.nil)))) Z Z (AOps.step (aM O Z Z Z Z Z) Z Z Z (js O Z (jf [14,3,2,1,0] Z (aS 3 Z Z Z (fun hx => AN.step hx Z Z Z (V O Z) Z Z ( AN.step hx Z Z Z (V O Z) Z Z ( dI O hx Z Z Z Z (yo h1 h2) (aa Z) Z Z Z Z Z Z Z (B0 := 18000) Z ( AN.nil)))) Z Z (AOps.step (aM O Z Z Z Z Z) Z Z Z (js O Z (jf [19,3,2,1,0] Z (aS 11 Z Z Z (fun hx => AN.step hx Z Z Z (V O Z) Z Z ( AN.step hx Z Z Z (V O Z) Z Z ( AN.step hx Z Z Z (V O Z) Z Z ( pH 7 Z Z Z Z (fun hx' => AN.step hx' Z Z Z (V O Z) Z Z ( AN.step hx' Z Z Z (V O Z) Z Z ( AN.step hx' Z Z Z (V O Z) Z Z ( AN.step hx' Z Z Z (az O Z Z (by first | omega | (simp only [aN] at *; omega)) (by first | omega | (simp only [aN] at *; omega))) Z Z ( AN.step hx' Z Z Z (bA O Z Z Z Z Z Z Z Z (by first | omega | (simp only [aN] at *; omega)) (ja (by first | omega | (simp only [aN] at *; omega)) (by first | omega | (simp only [aN] at *; omega)))) Z Z ( AN.step hx' Z Z Z (V O Z) Z Z ( AN.step hx' Z Z Z (V O Z) Z Z ( AN.nil)))))))) Z Z ( AN.step hx Z Z Z (aK O Z Z Z Z Z) Z Z ( AN.nil)))))) Z Z (AOps.step (aM O Z Z Z Z Z) Z Z Z (js O Z (jf [2,1,0] Z (jr ?_)))))))))))))))))))))))
 refine ⟨.inl Z, _, ak, _, Z, ?_⟩
 exact congrArg eB (uv t)
theorem Bf : MQ h1 h2 165 [cU t] [] (Plain (eB t.term)) := by
 refine aA ?_ Z
 refine jB 11 h1 h2 Tryz.func165 Z Z Z fun O hF => ?_
 refine ac (jx O Z (js O Z (aP (js O Z (ae O Z Z Z Z (mh h1 h2) (aa Z) Z Z Z Z Z (B0 := 5000) Z (js O Z (jf [5,2,1,0] Z (aS 4 Z Z Z (fun hx => AN.step hx Z Z Z (V O Z) Z Z ( AN.step hx Z Z Z (V O Z) Z Z ( AN.step hx Z Z Z (bZ O Z Z Z Z Z Z Z Z) Z Z ( AN.step hx Z Z Z (V O Z) Z Z ( AN.nil))))) Z Z (AOps.step (aM O Z Z Z Z Z) Z Z Z (js O Z (jf [2,0] Z (jr ?_))))))))))))
 refine ⟨.inl Z, _, ak, _, Z, ?_⟩
 rw [Bool.cond_false_right]; rfl
theorem Bg : MQ h1 h2 164 [cU t] [] (Plain (eB !t.term)) := by
 refine aA ?_ Z
 refine jB 6 h1 h2 Tryz.func164 Z Z Z fun O hF => ?_
 refine ac (jx O Z (js O Z (aP (js O Z (jf [3,2,0] Z (ae O Z Z Z Z (Bf h1 h2) (aa Z) Z Z Z Z Z (B0 := 5000) Z (j2 O Z Z (jf [2,0] Z (jr ?_)))))))))
 refine ⟨.inl Z, _, ak, _, Z, ?_⟩
 first | rfl | skip
def oY (ts : List Tm) : Int := if ts.all Tm.term = true then -1 else (ts.findIdx fun t => !t.term : Nat)
theorem tR {ts : List Tm} (h : ∀ j (hj : j < ts.length), Tm.term ts[j] = true) : oY ts = -1 := by rw [oY, if_pos (j7 h)]
theorem uU {ts : List Tm} {i : Nat} (hi : i < ts.length) (h : ∀ j (hj : j < ts.length), j < i → Tm.term ts[j] = true) (hn : Tm.term ts[i] = false) : oY ts = i := by
 rw [oY, if_neg (by rw [gU i hi hn]; decide)]
 exact congrArg Nat.cast ((List.findIdx_eq hi).2 ⟨by simp [hn], fun j hj => by simp [h j (by omega) hj]⟩)
theorem tQ {ts : List Tm} : decide (oY ts ≥ 0) = !ts.all Tm.term := by
 unfold oY
 cases h : ts.all Tm.term <;> simp
variable {ts : List Tm}
theorem A9 : MQ h1 h2 181 [cD ts, .c (.fn 164 [])] [] (Plain (eI (oY ts))) := by
 refine aA ?_ Z
 refine jB 19 h1 h2 Tryz.func181 Z Z Z fun O hF => ?_
 have hl : ts.length ≤ L := by simpa [As.fact, A.fact, M.fact, D.fact, Ds.fact] using hF.1.1
 refine ac (js O Z (jn (af (ac (js O Z (bo O Z (js O Z (jn (am (ap (X := Nat) (fun i => ⟨[(0, cD ts), (1, .c (.fn 164 [])), (7, eI ts.length), (8, eI i)], []⟩) (fun i => i ≤ ts.length ∧ ∀ j (h : j < ts.length), j < i → Tm.term ts[j] = true) (fun i => ts.length - i) 0 (Ent.env ⟨Z, Z, Z, Z, trivial⟩) ?_ (fun i hi => ?_)))))))))))
 exact ⟨cm _, fun j h hj => absurd hj (Nat.not_lt_zero j)⟩
 refine ac (js O Z (jn (af (ab O Z Z (fun hc9 => ?_) (fun hc9 => ?_)))))
 try simp only [aN] at hc9
 refine ah (af (am (ac (j2 O Z Z (aP (j3 O Z Z Z (f7 O Z Z (js O Z (ae O Z Z Z Z (Bg h1 h2) (aa Z) Z Z Z Z Z (B0 := 17000) Z (jn (ab O Z Z (fun hc16 => ?_) (fun hc16 => ?_))))))))))))
 try simp only [aN] at hc16
 refine ac (j2 O Z Z (jr ?_))
 refine ⟨.inl Z, _, ak, _, Z, ?_⟩
 rw [Int.toNat_natCast, ar (by omega)] at hc16
 rw [uU (by omega) hi.2 hc16]
 try simp only [aN] at hc16
 refine ah (aj (ji O Z (js O Z (jn ?_))))
 refine ⟨i + 1, Ent.env ⟨Z, Z, Z, Z, trivial⟩, ⟨by omega, fun j h hj => ?_⟩, by omega⟩
 by_cases e : j = i
 subst e; rw [Int.toNat_natCast, ar h] at hc16; exact hc16
 exact hi.2 j h (by omega)
 try simp only [aN] at hc9
 refine aQ (ac (js O Z (jr ?_)))
 refine ⟨.inl Z, _, ak, _, Z, ?_⟩
 rw [tR (fun j hj => hi.2 j hj (by omega))]
theorem Bh : MQ h1 h2 163 [cD ts, .c (.fn 164 [])] [] (Plain (eB !ts.all Tm.term)) := by
 refine aA ?_ Z
 refine jB 9 h1 h2 Tryz.func163 Z Z Z fun O hF => ?_
 refine ac (js O Z (aP (j2 O Z Z (ae O Z Z Z Z (A9 h1 h2) (.cons (.c .d) (.cons (.c (.fn .nil)) .nil)) Z Z Z Z Z (B0 := 8000) Z (j2 O Z Z (jr ?_))))))
 refine ⟨.inl Z, _, ak, _, Z, ?_⟩
 exact congrArg eB tQ
theorem rC {n : Int} : MQ h1 h2 137 [cD ts, eI n] [] (Plain (eB (cf ts n))) := by
 refine aA ?_ Z
 refine jB 14 h1 h2 Tryz.func137 Z Z Z fun O hF => ?_
 refine ac (js O Z (aP (js O Z (bo O Z (j3 O Z Z Z (aS 3 Z Z Z (fun hx => AN.step hx Z Z Z (V O Z) Z Z ( dI O hx Z Z Z Z (Bh h1 h2) (.cons (.c .d) (.cons (.c (.fn .nil)) .nil)) Z Z Z Z Z Z Z (B0 := 12000) Z ( AN.step hx Z Z Z (V O Z) Z Z ( AN.nil)))) Z Z (AOps.step (aM O Z Z Z Z Z) Z Z Z (js O Z (jr ?_)))))))))
 refine ⟨.inl Z, _, ak, _, Z, ?_⟩
 rw [Bool.cond_false_right, Bool.not_not, Bool.and_comm]; rfl
theorem yn : MQ h1 h2 178 [eI x] [] (Plain (eB (da 0 3 x))) := by
 refine aA ?_ Z
 refine jB 5 h1 h2 Tryz.func178 Z Z Z fun O hF => ?_
 refine ac (js O Z (aP (js O Z (ae O Z Z Z Z (nU h1 h2) (aa Z) Z Z Z Z Z (B0 := 5000) Z (js O Z (jr ?_))))))
 refine ⟨.inl Z, _, ak, _, Z, ?_⟩
 first | rfl | skip
theorem Ba : MQ h1 h2 180 [eI x] [] (Plain (eB (da 0 3 x))) := by
 refine aA ?_ Z
 refine jB 5 h1 h2 Tryz.func180 Z Z Z fun O hF => ?_
 refine ac (js O Z (aP (js O Z (ae O Z Z Z Z (nU h1 h2) (aa Z) Z Z Z Z Z (B0 := 5000) Z (js O Z (jr ?_))))))
 refine ⟨.inl Z, _, ak, _, Z, ?_⟩
 first | rfl | skip
inductive Tr where
  | node (s : Sm) (at_ : Int) (kids : List Tr)
mutual
def Tr.d : Tr → D
  | .node s a ks => .ptr [.int .i64 s.kind, .int .i64 s.var, .int .i64 s.event, .int .i64 s.sum.c, gj s.sum.xs, .int .i64 s.index.c, gj s.index.xs, fH s.facts, .int .i64 a, .slc 1 (Trs.d ks)] 0
def Trs.d : List Tr → List (List D)
  | [] => []
  | t :: r => [t.d] :: Trs.d r
end
structure RS where
  vars : List Int
  cells : List Int
  events : List Int
  fuel : Int
  steps : Int
  out : Int
def leaf (s : Sm) (r : RS) : Bool × RS :=
  if s.kind = 2 then (if Aj (i4 s.sum r.vars) = true then (true, { r with vars := r.vars.set s.var.toNat (i4 s.sum r.vars) }) else (false, { r with out := 4 }))
  else if s.kind = 3 then (if da 0 7 (i4 s.index r.vars) = true then (true, { r with vars := r.vars.set s.var.toNat (r.cells.getD (i4 s.index r.vars).toNat default) }) else (false, { r with out := 2 }))
  else if s.kind = 4 then (if da 0 7 (i4 s.index r.vars) = true then (if Aj (i4 s.sum r.vars) = true then (true, { r with cells := r.cells.set (i4 s.index r.vars).toNat (i4 s.sum r.vars) }) else (false, { r with out := 4 })) else (false, { r with out := 2 }))
  else if s.kind = 5 then (true, { r with events := r.events ++ [s.event] })
  else if s.kind = 6 then (if i4 s.sum r.vars < 0 then (false, { r with out := 3 }) else (true, r))
  else (true, r)
structure RSok (r : RS) : Prop where
  vars : vr r.vars 4 = true
  cells : vr r.cells 8 = true
  lo : 0 ≤ r.steps
  hi : r.steps ≤ r.fuel
  fuel : r.fuel ≤ 2000
  events : (r.events.length : Int) ≤ r.steps
structure RSle (r r' : RS) : Prop where
  ok : RSok r'
  fuel : r'.fuel = r.fuel
  steps : r.steps ≤ r'.steps

mutual
/-- Each element is valid, and has the statements behind it that it dW. -/
def Tr.ok : Tr → Prop
  | .node s _ ks => vo s = true ∧ (ks.length : Int) = wc s.kind ∧ Trs.ok ks
def Trs.ok : List Tr → Prop
  | [] => True
  | t :: r => t.ok ∧ Trs.ok r
end
def r0 (s : Sx) (f : Int) : RS := ⟨s.vars, s.cells, [], f, 0, 0⟩
structure Rs where
  v : List Int
  c : List Int
  ev : List Int
  out : Int
  st : Int
structure Cf where
  n : Nat
  ws : List Nat
  v : List Int
  c : List Int
  ev : List Int
  st : Int

structure Nd where
  kind : Int
  fact : Int
  term : Tm
  mul : List Int
  deriving Inhabited, DecidableEq
structure Sq where
  facts : List Tm
  goal : Tm
  deriving Inhabited, DecidableEq
abbrev Sq.cells (s : Sq) : List D := [fH s.facts, .int .i64 s.goal.c, gj s.goal.xs]
theorem qy {L : Nat} (h1 : 4096 ≤ L) (h2 : L ≤ 1073741824) {xs : List Int} : MC Tryz.prog L 116 [bM xs] [] (Plain (bM xs)) := (wo h1 h2).frozen (.v (.c (.whole rfl (bt _).symm)))
theorem zn {L : Nat} (h1 : 4096 ≤ L) (h2 : L ≤ 1073741824) {xs : List Int} : MC Tryz.prog L 170 [bM xs] [] (Plain (bM xs)) := (wn h1 h2).frozen (.v (.c (.whole rfl (bt _).symm)))
abbrev au (ts : List Tm) : B := .row false 2 (ts.map Tm.cells)

theorem wq : MQ h1 h2 109 [ptr t.cells] [] (Plain (cU t)) := by
 refine MC.data (jB 13 h1 h2 Tryz.func109 Z Z Z fun O hF => ?_)
 refine ac (jl O Z (jn (af (fI O [_,_,_,_,_,_,_,_,_,_,_] [pn [] 0 1, pn [0] 0 1, pn [0,1] 0 1, pn [0,1,2] 0 1, pn [] 0 0, pn [4] 0 0, pn [4,5] 0 0, pn [4,5,6] 0 0, pe (rg 4 4) 0, pn (rg 0 9) 1 1, pe (rg 0 10) 1] [8,10] [_,_,_] (ai (kc O Z (V O Z)) (ai (kc O Z (V O Z)) (ai (kc O Z (V O Z)) (ai (kc O Z (V O Z)) (kc O Z (kc O Z (kc O Z (kc O Z (ai (aC O (B0 := 12000) Z Z Z Z (qy (xs := t.xs) h1 h2) (aa Z) Z Z Z Z Z) (kc O Z (ai (eS O Z Z Z) trivial))))))))))) ?_))))
 refine iZ ?_
 refine ⟨.inl Z, _, ak, _, Z, ?_⟩
 exact .v (.agg (aq Z))
theorem Bl : MQ h1 h2 176 [cU t] [] (Plain (cU t)) := by
 refine MC.data (jB 9 h1 h2 Tryz.func176 Z Z Z fun O hF => ?_)
 refine ac (jx O Z (jl O Z (jn (af (fI O [_,_,_,_,_,_,_] [pn [] 0 1, pn [0] 0 1, pn [] 0 0, pn [2] 0 0, pe [2,3] 0, pn (rg 0 5) 1 1, pe (rg 0 6) 1] [4,6] [_,_,_] (ai (kc O Z (V O Z)) (ai (kc O Z (V O Z)) (kc O Z (kc O Z (ai (aC O (B0 := 8000) Z Z Z Z (zn (xs := t.xs) h1 h2) (aa Z) Z Z Z Z Z) (kc O Z (ai (eS O Z Z Z) trivial))))))) ?_)))))
 refine iZ ?_
 refine ⟨.inl Z, _, ak, _, Z, ?_⟩
 exact .v (.agg (aq Z))
theorem nR : MQ h1 h2 81 [cD ts] [] (Rows (.c (.rs 0 0 ts.length)) [au ts]) := by
 refine bh (jB 20 h1 h2 Tryz.func81 Z Z Z fun O hF => ?_)
 have hl : ts.length ≤ L := by simpa [As.fact, A.fact, M.fact, D.fact, Ds.fact] using hF.1.1
 refine ac (js O Z (aP (AOps.heap (aZ O Z Z Z) Z (js O Z (jn (af (ac (js O Z (jn (am (ap (X := Nat) (fun i => ⟨[(0, cD ts), (3, .c (.rs 900 0 i)), (4, eI i)], [(900, au (ts.take i))]⟩) (fun i => i ≤ ts.length) (fun i => ts.length - i) 0 ((ct 5 Z).trans ((ag 5 900 Z Z).trans (Ent.to ⟨Z, Z, Z, trivial⟩ Z))) ?_ (fun i hi => ?_))))))))))))
 exact cm _
 refine af (ac (j2 O Z Z (bo O Z (js O Z (jf [9,0,3,4] Z (jn (ab O Z Z (fun hc9 => ?_) (fun hc9 => ?_))))))))
 try simp only [aN] at hc9
 refine ah (af (am (aj (j3 O Z Z Z (f7 O Z Z (jf [15,12,9,0,3,4] Z (ax O Z Z Z Z (wq h1 h2) (aa Z) Z Z Z Z (B0 := 17000) Z Z (jf [16,12,9,0,3,4] Z (AOps.heap (cH O Z Z Z Z Z Z Z Z Z Z Z) Z (jf [17,12,9,0,3,4] Z (AOps.heap (bH (own := false) (zs := (ts.take (i + 1)).map Tm.cells) (n := i + 1) O Z Z Z Z Z Z Z Z Z Z Z Z Z Z Z Z (.row Z (by simp; omega)) (.whole Z Z (.inr ⟨Z, Z⟩)) (by simp) Z (by simp; omega) (by simp; omega) (by rw [List.take_succ_eq_append_getElem (by omega), List.map_append, Int.toNat_natCast, ar (by omega)]; rfl) (by simp; omega)) Z (js O Z (jf [3,9,0,4] Z (jn (aj (js O Z (ji O Z (js O Z (jf [4,3,9,0] Z (jn ?_))))))))))))))))))))
 refine ⟨i + 1, (aw [18] (e' := [(0, _), (3, _), (4, _)]) Z Z ⟨Z, Z, Z, trivial⟩ Z).trans (ag 18 900 Z Z), by omega, by omega⟩
 try simp only [aN] at hc9
 refine aQ (ac (j2 O Z Z (jr ?_)))
 obtain rfl : i = ts.length := by omega
 rw [List.take_length]
 refine ⟨.inl Z, _, ak, _, Z, [900], by decide, Z, Z, Z⟩
theorem ud {L : Nat} (h1 : 4096 ≤ L) (h2 : L ≤ 1073741824) {ts : List Tm} : MC Tryz.prog L 81 [cD ts] [] (Plain (cD ts)) := (nR h1 h2).frozen (.v (.c (.whole rfl (bt _).symm)))
def dM (xs : List Int) : List Int := (xs.reverse.dropWhile (· == 0)).reverse
theorem rD {xs : List Int} : dM (xs ++ [0]) = dM xs := by simp [dM]
theorem rE {xs : List Int} {x : Int} (h : x ≠ 0) : dM (xs ++ [x]) = xs ++ [x] := by simp [dM, h]
theorem mw {xs : List Int} {n : Nat} (h : n < xs.length) (h0 : xs.getD n default = 0) : dM (xs.take (n + 1)) = dM (xs.take n) := by
 rw [List.take_succ_eq_append_getElem h, ← ar h, h0, rD]
theorem my {xs : List Int} {n : Nat} (hn : n ≤ xs.length) (h : n = 0 ∨ xs.getD (n - 1) default ≠ 0) : dM (xs.take n) = xs.take n := by
 cases n with
 | zero => simp [dM]
 | succ n =>
  have h' : xs.getD n default ≠ 0 := by
   rcases h with h | h
   cases h
   exact h
  rw [ar (by omega)] at h'
  rw [List.take_succ_eq_append_getElem (by omega), rE h']
def r9 (c : Int) (xs : List Int) : Tm × Bool := if (Tm.mk c (dM xs)).ok = true then (⟨c, dM xs⟩, true) else (⟨0, []⟩, false)
abbrev eM (r : Tm × Bool) : A := .tup [cU r.1, eB r.2]
def gb (a : Tm) (m : Int) (b : Tm) (n : Int) : List Int := (List.range 10).map fun i => m * a.xs.getD i 0 + n * b.xs.getD i 0
def kY (a : Tm) (m : Int) (b : Tm) (n : Int) : Tm × Bool := r9 (m * a.c + n * b.c) (gb a m b n)
def bK (t : Tm) : Tm × Bool := kY t (-1) ⟨1, []⟩ (-1)
structure Small (t : Tm) : Prop where
  c : num t.c = true
  xs : t.xs.all num = true
theorem et {a b : Int} (h1 : num a = true) (h2 : num b = true) : -1000000000000 ≤ a * b ∧ a * b ≤ 1000000000000 := by
 have h1 := z7.1 h1
 have h2 := z7.1 h2
 have h3 : a.natAbs ≤ 1000000 := by omega
 have h4 : b.natAbs ≤ 1000000 := by omega
 have h5 := Nat.mul_le_mul h3 h4
 rw [← Int.natAbs_mul] at h5
 omega
theorem Small.get {t : Tm} (h : Small t) (i : Nat) : num (t.xs.getD i 0) = true := by
 by_cases hi : i < t.xs.length
 have : t.xs.getD i 0 = t.xs[i] := by simp [hi]
 rw [this]
 exact List.all_eq_true.1 h.xs _ (List.getElem_mem hi)
 have : t.xs.getD i 0 = 0 := by simp [Nat.not_lt.1 hi]
 rw [this]; decide
theorem Small.of {t : Tm} (h : t.ok = true) : Small t := by
 simp only [Tm.ok, bF, Bool.not_eq_true'] at h
 refine ⟨?_, h.2⟩
 cases hn : num t.c with
 | true => rfl
 | false => rw [hn] at h; simp at h
theorem rF {a b : Tm} {m n : Int} {i : Nat} (h : i < 10) : (gb a m b n).take (i + 1) = (gb a m b n).take i ++ [m * a.xs.getD i 0 + n * b.xs.getD i 0] := by
 rw [List.take_succ_eq_append_getElem (by simpa [gb] using h)]
 simp [gb]
theorem dv {a b : Tm} {m n : Int} : (gb a m b n).length = 10 := by simp [gb]
theorem pj {t : Tm} (h : t.ok = true) : t.xs.length ≤ 10 := by
 simp only [Tm.ok, bF, Bool.not_eq_true'] at h
 by_cases h1 : (10 : Int) < t.xs.length
 rw [decide_eq_true h1] at h
 cases num t.c <;> simp at h
 omega
theorem yl {c : Int} : MQ h1 h2 158 [eI c, bM xs] [] (Plain (eM (r9 c xs))) := by
 refine MC.data (jB 32 h1 h2 Tryz.func158 Z Z Z fun O hF => ?_)
 have hl : xs.length ≤ L := by simpa [As.fact, A.fact, M.fact, D.fact, Ds.fact] using hF.2.1.1
 refine ac (jl O Z (js O Z (aP (js O Z (bo O Z (js O Z (jf [6,5,4,0,1] Z (jn (af (am (ap (X := Nat) (fun n => ⟨[(0, eI c), (1, bM xs), (4, .c (.pt 4 0 0)), (6, eI n)], [(4, .box [.d (.int .i64 0), .d .nils])]⟩) (fun n => n ≤ xs.length ∧ dM (xs.take n) = dM xs) (fun n => n) xs.length (Ent.env ⟨Z, Z, Z, Z, trivial⟩) ?_ (fun n hi => ?_))))))))))))
 exact ⟨bw _, by rw [List.take_length]⟩
 refine af (ac (j3 O Z Z Z (jf [12,0,1,4,6] Z (aS 6 Z Z Z (fun hx => AN.step hx Z Z Z (V O Z) Z Z ( AN.step hx Z Z Z (V O Z) Z Z ( AN.step hx Z Z Z (vF O Z) Z Z ( AN.step hx Z Z Z (vD O Z) Z Z ( AN.step hx Z Z Z (V O Z) Z Z ( AN.step hx Z Z Z (V O Z) Z Z ( AN.nil))))))) Z Z (AOps.step (aM O Z Z Z Z Z) Z Z Z (jf [19,0,1,4,6] Z (jn (ab O Z Z (fun hc19 => ?_) (fun hc19 => ?_)))))))))
 refine ah (am (aj (js O Z (ji O Z (js O Z (jf [6,19,0,1,4] Z (jn ?_)))))))
 rw [Bool.cond_false_right, bF, decide_eq_true_eq, decide_eq_true_eq] at hc19
 obtain ⟨k, hk⟩ : ∃ k, n = k + 1 := ⟨n - 1, by omega⟩
 subst hk
 have hk2 : ((k + 1 : Nat) : Int) - 1 = k := by omega
 rw [hk2] at hc19
 refine ⟨k, Ent.to ⟨Z, Z, Z, by rw [hk2]; rfl, trivial⟩ Z, ⟨by omega, ?_⟩, Nat.lt_succ_self k⟩
 rw [← hi.2, mw (by omega) (by simpa using hc19.2)]
 refine aQ (ac (j3 O Z Z Z ?_))
 have hd : dM (xs.take n) = xs.take n := my hi.1 (by
  rw [Bool.cond_false_right] at hc19
  rcases Nat.eq_zero_or_pos n with h0 | h0
  ·
   exact .inl h0
  ·
   refine .inr (fun h9 => ?_)
   have e1 : ((n : Int) - 1).toNat = n - 1 := by omega
   rw [e1, h9] at hc19; simp at hc19; omega)
 have ht := hi.2
 rw [hd] at ht
 refine AOps.step ((aO O Z Z ⟨by omega, by simp; omega⟩).cast (v' := bM (dM xs)) (by rw [← ht]; simp [List.map_take])) Z Z Z (jf [25,22,19,0,1,4,6] Z (ax O Z Z Z Z (qy (xs := dM xs) h1 h2) (aa Z) Z Z Z Z (B0 := 27000) Z Z (js O Z (jf [27,19,0,1,4,6] Z (jl O Z (jo O Z (jn (af (ac (ae O Z Z Z Z (yp (t := ⟨c, dM xs⟩) h1 h2) (.cons (.c (.pb (cs := Tm.cells ⟨c, dM xs⟩) Z (aq Z))) .nil) Z Z Z Z Z (B0 := 29000) Z (js O Z (jn (ab O Z Z (fun hc29 => ?_) (fun hc29 => ?_))))))))))))))
 refine ac (js O Z (jo O Z (js O Z (jr ?_))))
 refine ⟨.inl Z, _, ak, _, Z, ?_⟩
 have hok : (Tm.mk c (dM xs)).ok = false := by simpa using hc29
 rw [show r9 c xs = (⟨0, []⟩, false) from if_neg (by rw [hok]; decide)]
 exact .tup (.cons (.agg (.cons .d (.cons .nils .nil))) (.cons (.c .d) .nil))
 refine ah (ac (js O Z (jo O Z (js O Z (jr ?_)))))
 refine ⟨.inl Z, _, ak, _, Z, ?_⟩
 have hok : (Tm.mk c (dM xs)).ok = true := by simpa using hc29
 rw [show r9 c xs = (⟨c, dM xs⟩, true) from if_pos hok]
 exact .tup (.cons (.agg (aq Z)) (.cons (.c .d) .nil))
theorem yj {i : Nat} (hi : i < 10) : MQ h1 h2 159 [ptr t.cells, eI i] [] (Plain (eI (t.xs.getD i 0))) := by
 refine aA ?_ Z
 refine jB 19 h1 h2 Tryz.func159 Z Z Z fun O hF => ?_
 have hl : t.xs.length ≤ L := by simpa [As.fact, A.fact, M.fact, D.fact, Ds.fact] using hF.1.2.1.1
 refine ac (js O Z (jn (af (ac (j4 O Z Z Z Z (js O Z (bo O Z (js O Z (jf [11,4,0,1] Z (jn (ab O Z Z (fun hc11 => ?_) (fun hc11 => ?_))))))))))))
 try simp only [aN] at hc11
 refine ac (j4 O Z Z Z Z (js O Z (f7 O Z Z (j2 O Z Z (jf [4,0,1] Z (jr ?_))))))
 refine ⟨.inl Z, _, ak, _, Z, ?_⟩
 rw [Int.toNat_natCast]
 have : t.xs.getD i 0 = t.xs.getD i default := rfl
 rfl
 try simp only [aN] at hc11
 refine ah (ac (js O Z (jr ?_)))
 refine ⟨.inl Z, _, ak, _, Z, ?_⟩
 have : t.xs.getD i 0 = 0 := by simp [show t.xs.length ≤ i by omega]
 rw [this]
theorem uj {a b : Tm} {m n : Int} (ha : Small a) (hb : Small b) (hm : num m = true) (hn : num n = true) : MQ h1 h2 135 [ptr a.cells, eI m, ptr b.cells, eI n] [] (Plain (eM (kY a m b n))) := by
 refine MC.data (jB 48 h1 h2 Tryz.func135 Z Z Z fun O hF => ?_)
 refine ac (jl O Z (js O Z (aP (AOps.heap (aZ O Z Z Z) Z (js O Z (jn (af (ac (js O Z (jn (am (ap (X := Nat) (fun i => ⟨[(0, ptr a.cells), (1, eI m), (2, ptr b.cells), (3, eI n), (8, .c (.pt 8 0 0)), (10, .c (.rs 900 0 i)), (11, eI i)], [(8, .box [.d (.int .i64 0), .d .nils]), (900, aD ((gb a m b n).take i))]⟩) (fun i => i ≤ 10) (fun i => 10 - i) 0 ((ag 12 900 Z Z).trans (Ent.to ⟨Z, Z, Z, Z, Z, Z, Z, trivial⟩ Z)) ?_ (fun i hi => ?_)))))))))))))
 exact cm _
 refine af (ac (j2 O Z Z (jn (ab O Z Z (fun hc14 => ?_) (fun hc14 => ?_)))))
 try simp only [aN] at hc14
 refine ah (af (am (aj ?_)))
 have q1 := et hm (ha.get i)
 have q2 := et hn (hb.get i)
 refine j4 O Z Z Z Z (ae O Z Z Z Z (yj (t := a) (i := i) h1 h2 (by omega)) (aa Z) Z Z Z Z Z (B0 := 22000) Z (ji O Z (j3 O Z Z Z (jf [25,24,23,22,17,14,13,0,1,2,3,8,10,11] Z (ae O Z Z Z Z (yj (t := b) (i := i) h1 h2 (by omega)) (aa Z) Z Z Z Z Z (B0 := 27000) Z (ji O Z (ji O Z (jf [28,17,14,13,0,1,2,3,8,10,11] Z (AOps.heap (aZ O Z Z Z) Z (jf [29,17,14,13,0,1,2,3,8,10,11] Z (AOps.heap (bj (zs := ((gb a m b n).take (i + 1)).map fun n => [.int .i64 n]) (n := i + 1) O Z Z Z Z Z Z Z Z Z Z Z Z Z Z Z Z (.row Z (by simp [dv]; omega)) Z Z (by decide) Z (by simp [dv]; omega) (by simp [dv]; omega) (by rw [rF (by omega), List.map_append]; rfl) (by simp [dv]; omega)) Z (js O Z (jf [10,14,13,0,1,2,3,8,11] Z (jn (aj (js O Z (ji O Z (js O Z (jf [11,10,14,13,0,1,2,3,8] Z (jn ?_))))))))))))))))))))
 refine ⟨i + 1, ((aw [8,30] (e' := [(0, _), (1, _), (2, _), (3, _), (8, _), (10, _), (11, _)]) Z Z ⟨Z, Z, Z, Z, Z, Z, Z, trivial⟩ Z).trans (ag 30 900 Z Z)), by omega, by omega⟩
 try simp only [aN] at hc14
 refine aQ (af ?_)
 obtain rfl : i = 10 := by omega
 rw [List.take_of_length_le (by rw [dv]; decide)]
 have q1 := et hm ha.c
 have q2 := et hn hb.c
 refine gX (Ent.freeze 900 (e' := [(10, _), (8, _), (0, _), (1, _), (2, _), (3, _)]) Z (.cons Z (.c (.row Z (by simp [dv]))) (fe [8,0,1,2,3] Z)) (.cons Z (.box (fk Z)) (.skip .nil))) ?_
 refine fI O [_,_,_,_,_,_,_,_,_,_,_,_,_,_,_,_,_,_,_] [pn [] 0 0, pn [] 0 0, pn [1] 0 0, pn [1,2] 0 0, pn [1,2,3] 0 0, pn (rg 0 5) 0 0, pn [] 0 0, pn [] 0 0, pn [7] 0 0, pn [7,8] 0 0, pn [7,8,9] 0 0, pn (rg 6 5) 0 0, pn (rg 0 12) 0 0, pn [] 0 0, pe (rg 0 14) 0, pn (rg 0 15) 1 1, pn (rg 0 15) 1 1, pe (rg 0 17) 1, pn (rg 0 18) 2 2] [14,17] [_,_,_] (kc O Z (kc O Z (kc O Z (kc O Z (kc O Z (ai (vF O Z) (kc O Z (kc O Z (kc O Z (kc O Z (kc O Z (ai (vF O Z) (ai (vF O Z) (kc O Z (ai (aC O (B0 := 46000) Z Z Z Z (yl (c := m * a.c + n * b.c) (xs := gb a m b n) h1 h2) (aa Z) Z Z Z Z Z) (kc O Z (kc O Z (ai (eS O Z Z Z) (kc O Z trivial))))))))))))))))))) ?_
 refine jw [9,10,8,0,1,2,3] Z (ch ?_)
 refine iZ ?_
 refine ⟨.inl Z, _, ak, _, Z, ?_⟩
 exact .tup (.cons (.agg (aq Z)) (.cons (.c .d) .nil))
theorem Bc (ht : Small t) : MQ h1 h2 119 [ptr t.cells] [] (Plain (eM (bK t))) := by
 refine MC.data (jB 10 h1 h2 Tryz.func119 Z Z Z fun O hF => ?_)
 refine ac (jl O Z (js O Z (aP (j2 O Z Z (jf [5,4,3,2] Z (jx O Z (jf [6,4,3,2] Z (AOps.to (Ent.freeze 6 (e' := [(6, _), (4, _), (2, _)]) Z (.cons Z (.c (.box (cs := Tm.cells ⟨1, []⟩) Z (.cons .d (.cons .nils .nil)))) (fe [4,2] Z)) (.cons Z (.box (fk Z)) (.skip .nil))) ?_))))))))
 refine ax O Z Z Z Z (uj (a := t) (m := -1) (b := ⟨1, []⟩) (n := -1) h1 h2 ht ⟨by decide, by decide⟩ (by decide) (by decide)) (aa Z) Z Z Z Z (B0 := 8000) Z Z (j2 O Z Z (jf [9,8,2] Z (jo O Z (js O Z (jf [3,2] Z (jr ?_))))))
 refine ⟨.inl Z, _, ak, _, Z, ?_⟩
 exact .tup (.cons (.agg (aq Z)) (.cons (.c .d) .nil))
def go (ts : List Tm) (n : Int) : Bool := ts.all Tm.ok && decide ((ts.length : Int) ≤ n)
def dl (k : Int) : Int := if k = 1 then -1 else if k = 2 then 1 else 0
def yg : List Nd → Int → Option Nat
  | [], need => if need ≤ 0 then some 0 else none
  | s :: r, need => if need ≤ 0 then some 0 else (yg r (need + dl s.kind)).map (· + 1)
def A1 (p : List Nd) (k : Nat) : Int := match yg (p.drop k) 1 with
  | some n => k + n
  | none => -1
def xT (p : List Nd) (k : Nat) : Nat → Int × Bool
  | 0 => (-1, false)
  | i + 1 => if (p.getD i default).kind = 1 ∨ A1 p i ≤ k then xT p k i else (i, decide (i + 1 = k))
def sA (xs : List Int) : Nat := xs.foldl (fun g x => Nat.gcd g x.natAbs) 0
def mx (a b : Int) : Int := if a > b then a else b
def sS (t : Tm) : Tm × Bool := if sA t.xs < 2 then (⟨0, []⟩, false) else
  r9 (if t.c.tmod (sA t.xs) < 0 then t.c.tdiv (sA t.xs) - 1 else t.c.tdiv (sA t.xs)) (t.xs.map fun x => x.tdiv (sA t.xs))
def xI (n : Nd) (ctx : List Tm) (first : Bool) : List Tm := if n.kind = 3 then ctx ++ [(sS (ctx.getD n.fact.toNat default)).1] else if first = true then ctx ++ [n.term] else ctx ++ [(bK n.term).1]
def cn (f : Tm → Int) : List Tm → List Int → Int
  | t :: ts, m :: ms => m * f t + cn f ts ms
  | _, _ => 0
theorem fE {f : Tm → Int} : ∀ {ts : List Tm} {ms : List Int} {i : Nat}, i < ts.length → i < ms.length → cn f (ts.take (i + 1)) (ms.take (i + 1)) = cn f (ts.take i) (ms.take i) + ms.getD i default * f (ts.getD i default)
 | [], _, i, h, _ => by simp at h
 | _ :: _, [], i, _, h => by simp at h
 | x :: xs, y :: ys, 0, _, _ => by simp [cn]
 | x :: xs, y :: ys, i + 1, h1, h2 => by
  have := fE (f := f) (ts := xs) (ms := ys) (i := i) (by simpa using h1) (by simpa using h2)
  simp only [List.take_succ_cons, cn, List.getD_cons_succ] at this ⊢
  omega
theorem je {f : Tm → Int} {ts : List Tm} {ms : List Int} (hf : ∀ t ∈ ts, num (f t) = true) (hm : ms.all num = true) : ∀ {i : Nat}, i ≤ ts.length → i ≤ ms.length → -(i * 1000000000000 : Int) ≤ cn f (ts.take i) (ms.take i) ∧ cn f (ts.take i) (ms.take i) ≤ i * 1000000000000
 | 0, _, _ => by simp [cn]
 | i + 1, h1, h2 => by
  have ih := je hf hm (i := i) (by omega) (by omega)
  rw [fE (by omega) (by omega)]
  have a1 := hf _ (List.getElem_mem (show i < ts.length by omega))
  have a2 := List.all_eq_true.1 hm _ (List.getElem_mem (show i < ms.length by omega))
  have := et a2 a1
  rw [ar (by omega), ar (by omega)]
  omega
abbrev nQ (k : Nat) : Tm → Int := fun t => t.xs.getD k 0
def bU (ts : List Tm) (ms : List Int) : List Int := (List.range 10).map fun k => cn (nQ k) ts ms
def uZ (ctx : List Tm) (ms : List Int) : Bool := decide (ctx.length = ms.length) && ((bU ctx ms).all (fun x => decide (x = 0)) && decide (cn Tm.c ctx ms < 0))
def sV (n : Nd) (ctx : List Tm) : Bool := if n.kind = 1 then uZ ctx n.mul else if 20 ≤ ctx.length then false else if n.kind = 2 then (bK n.term).2 else if n.fact ≥ ctx.length then false else (sS (ctx.getD n.fact.toNat default)).2

def ef (ts : List Tm) (ms : List Int) (i j : Nat) : List Int := (List.range 10).map fun k => cn (nQ k) (ts.take i) (ms.take i) + (if k < j then ms.getD i default * (ts.getD i default).xs.getD k 0 else 0)
theorem dw {ts ms i j} : (ef ts ms i j).length = 10 := by simp [ef]
theorem mB {ts ms i} : ef ts ms i 0 = bU (ts.take i) (ms.take i) := by simp [ef, bU]
theorem lx {ts ms i j} (h : j < 10) : (ef ts ms i j).getD j default = cn (nQ j) (ts.take i) (ms.take i) := by
 rw [ar (by rw [dw]; exact h)]
 simp [ef]
theorem mD {ts ms i j} (h : j < 10) : (ef ts ms i j).set j ((ef ts ms i j).getD j default + ms.getD i default * (ts.getD i default).xs.getD j default) = ef ts ms i (j + 1) := by
 rw [lx h]
 apply List.ext_getElem?
 intro k
 rw [List.getElem?_set]
 by_cases hk : k < 10
 by_cases e : j = k
 subst e
 rw [if_pos Z, if_pos (by rw [dw]; exact h)]
 simp [ef, h]
 rw [if_neg e]
 have h3 : (k < j + 1) = (k < j) := by apply propext; omega
 simp only [ef, List.getElem?_map, List.getElem?_range hk, Option.map_some, h3]
 have h1 : (ef ts ms i j)[k]? = none := List.getElem?_eq_none (by rw [dw]; omega)
 have h2 : (ef ts ms i (j + 1))[k]? = none := List.getElem?_eq_none (by rw [dw]; omega)
 rw [if_neg (by omega), h1, h2]
theorem ol {ts ms i j} (h1 : i < ts.length) (h2 : i < ms.length) (h : (ts.getD i default).xs.length ≤ j) : ef ts ms i j = bU (ts.take (i + 1)) (ms.take (i + 1)) := by
 unfold ef bU
 apply List.map_congr_left
 intro k hk
 rw [fE h1 h2]
 by_cases e : k < j
 rw [if_pos e]
 rw [if_neg e]
 show _ + 0 = _ + _ * (ts.getD i default).xs.getD k 0
 rw [show (ts.getD i default).xs.getD k 0 = 0 by rw [List.getD_eq_getElem?_getD, List.getElem?_eq_none (by omega)]; rfl, Int.mul_zero]
theorem jC {ts ms} : (bU ts ms).length = 10 := by simp [bU]
structure CtxOk (ctx : List Tm) : Prop where
  ok : ∀ t ∈ ctx, t.ok = true
  len : ctx.length ≤ 1000
theorem CtxOk.get {ctx : List Tm} (h : CtxOk ctx) {i : Nat} (hi : i < ctx.length) : (ctx.getD i default).ok = true := by rw [ar hi]; exact h.ok _ (List.getElem_mem hi)
end Go.Al
