/- Programs and their validity; the reference's functions for wx. -/
import Derived.Test.YtbkloknmpkgmbaaD
set_option linter.unusedVariables false
set_option linter.unusedSimpArgs false
set_option maxRecDepth 10000
open Go.Proofs
namespace Go.Al
variable {L : Nat} (h1 : 4096 ≤ L) (h2 : L ≤ 1073741824)
def Tm.term (t : Tm) : Bool := t.ok && decide ((t.xs.length : Int) ≤ 4)
def wx (ts : List Tm) (n : Int) : Bool := ts.all Tm.term && decide ((ts.length : Int) ≤ n)
def xr (k : Int) : Int := if k = 1 then 2 else if k = 7 then 2 else if k = 8 then 1 else 0
def Tm.zero (t : Tm) : Bool := decide (t.c = 0) && decide ((t.xs.length : Int) = 0)

def xW (s : Sm) : Bool := bif bif bif bif decide (s.kind = 2) then true else decide (s.kind = 4) then true else decide (s.kind = 6) then true else decide (s.kind = 7) then true else decide (s.kind = 8)
def xX (s : Sm) : Bool := bif decide (s.kind = 3) then true else decide (s.kind = 4)
def v9 (s : Sm) : Bool := bif decide (s.kind = 2) then true else decide (s.kind = 3)
def sB1 (s : Sm) : Bool := bif bif bif !(decide (0 ≤ s.kind) && decide (s.kind ≤ 8)) then true else !s.sum.term then true else !s.index.term then true else !wx s.facts 6
def sB2 (s : Sm) : Bool := bif bif bif !xW s then !s.sum.zero else false then true else bif !xX s then !s.index.zero else false then true else bif !decide (s.kind = 8) then decide ((0 : Int) < s.facts.length) else false
def sB3 (s : Sm) : Bool := bif bif v9 s then !(decide (0 ≤ s.var) && decide (s.var ≤ 3)) else false then true else bif !v9 s then !decide (s.var = 0) else false
def wy (s : Sm) : Bool := bif sB1 s then false else bif sB2 s then false else bif sB3 s then false else bif decide (s.kind = 5) then (decide (0 ≤ s.event) && decide (s.event ≤ 3)) else decide (s.event = 0)
def big (x : Int) : Bool := decide (-1000000000 ≤ x) && decide (x ≤ 1000000000)
def ue (xs : List Int) (n : Int) : Bool := xs.all big && decide ((xs.length : Int) = n)
theorem xA {x : Int} : num x = true ↔ -1000000 ≤ x ∧ x ≤ 1000000 := by simp [num]
abbrev dn (t : Tm) : A := .agg (t.cells.map .d)
def pG (lo hi x : Int) : Bool := decide (lo ≤ x) && decide (x ≤ hi)

theorem rB {x lo hi : Int} : MQ h1 h2 38 [eI x, eI lo, eI hi] [] (Plain (eB (pG lo hi x))) := by
 refine aw ?_ Z
 refine jB 15 h1 h2 Try.func38 Z Z Z fun O hF => ?_
 refine ag (js O Z (aP (j4 O Z Z Z Z (aB 3 Z Z Z (fun hx => AN.step hx Z Z Z (V O Z) Z Z ( AN.step hx Z Z Z (V O Z) Z Z ( AN.step hx Z Z Z (V O Z) Z Z ( AN.nil)))) Z Z (AOps.step (aA O Z Z Z Z Z) Z Z Z (js O Z (jr ?_)))))))
 refine ⟨.inl Z, _, ak, _, Z, ?_⟩
 rw [Bool.cond_false_right]; rfl
variable {xs : List Int}
theorem rz {lo hi : Int} : MQ h1 h2 61 [aQ xs, eI lo, eI hi] [] (Plain (eB (xs.all (pG lo hi)))) := by
 refine aw ?_ Z
 refine jB 21 h1 h2 Try.func61 Z Z Z fun O hF => ?_
 have hl : xs.length ≤ L := by simpa [As.fact, A.fact, M.fact, D.fact, Ds.fact] using hF.1.1
 refine ag (js O Z (jn (ac (ag (js O Z (cj O Z (js O Z (jn (ah (al (X := Nat) (fun i => ⟨[(1, eI lo), (2, eI hi), (9, aQ xs), (10, eI xs.length), (11, eI i)], []⟩) (fun i => i ≤ xs.length ∧ ∀ j (h : j < xs.length), j < i → pG lo hi xs[j] = true) (fun i => xs.length - i) 0 (Ent.env ⟨Z, Z, Z, Z, Z, trivial⟩) ?_ (fun i hi => ?_)))))))))))
 exact ⟨b9 _, fun j h hj => absurd hj (Nat.not_lt_zero j)⟩
 refine ag (js O Z (jn (ac (ae O Z Z (fun hc12 => ?_) (fun hc12 => ?_)))))
 try simp only [ba] at hc12
 refine aj (ac (ah (ag (j6 O Z Z (j2 O Z Z (aP (j3 O Z Z Z (ao O Z Z Z Z (rB h1 h2) (aa Z) Z Z Z Z Z (B0 := 19000) Z (js O Z (jn (ae O Z Z (fun hc19 => ?_) (fun hc19 => ?_))))))))))))
 try simp only [ba] at hc19
 refine ag (js O Z (jr ?_))
 refine ⟨.inl Z, _, ak, _, Z, ?_⟩
 rw [Int.toNat_natCast, ar (by omega)] at hc19
 rw [kO i (by omega) hc19]
 try simp only [ba] at hc19
 refine aj (af (ji O Z (js O Z (jn ?_))))
 refine ⟨i + 1, Ent.env ⟨Z, Z, Z, Z, Z, trivial⟩, ⟨by omega, fun j h hj => ?_⟩, by omega⟩
 by_cases e : j = i
 subst e; rw [Int.toNat_natCast, ar h] at hc19; exact hc19
 exact hi.2 j h (by omega)
 try simp only [ba] at hc12
 refine aD (ag (js O Z (jr ?_)))
 refine ⟨.inl Z, _, ak, _, Z, ?_⟩
 rw [mV (fun j hj => hi.2 j hj (by omega))]
theorem yh {x : Int} : MQ h1 h2 60 [eI x] [] (Plain (eB (num x))) := by
 refine aw ?_ Z
 refine jB 5 h1 h2 Try.func60 Z Z Z fun O hF => ?_
 refine ag (js O Z (aP (js O Z (ao O Z Z Z Z (rB h1 h2) (aa Z) Z Z Z Z Z (B0 := 5000) Z (js O Z (jr ?_))))))
 refine ⟨.inl Z, _, ak, _, Z, ?_⟩
 first | rfl | skip
theorem tp (t : Tm) : (bif bif bif decide ((t.xs.length : Int) ≤ 10) then num t.c else false then t.xs.all num else false then bif decide ((t.xs.length : Int) = 0) then true else !decide (t.xs.getD ((t.xs.length : Int) - 1).toNat default = 0) else false) = t.ok := by
 unfold Tm.ok
 cases num t.c <;> cases t.xs.all num <;> simp
 by_cases h0 : t.xs = []
 simp [h0]
 have h1 : 0 < t.xs.length := List.length_pos_iff.2 h0
 by_cases h2 : (t.xs.length : Int) ≤ 10
 have h3 : ¬ (10 : Int) < t.xs.length := by omega
 simp [h0, h1, h2, h3]
 have h3 : (10 : Int) < t.xs.length := by omega
 simp [h2, h3]
variable {t : Tm}
theorem nu : MQ h1 h2 34 [dn t] [] (Plain (eB t.ok)) := by
 refine aw ?_ Z
 refine jB 32 h1 h2 Try.func34 Z Z Z fun O hF => ?_
 have hl : t.xs.length ≤ L := by simpa [As.fact, A.fact, M.fact, Ms.fact, D.fact, Ds.fact] using hF.1.2.1.1
 refine ag (jx O Z (js O Z (aP (j2 O Z Z (cj O Z (js O Z (jf [3,2,1,0] Z (aP (j3 O Z Z Z (jf [9,3,2,1,0] Z (aB 3 Z Z Z (fun hx => AN.step hx Z Z Z (V O Z) Z Z ( AN.step hx Z Z Z (V O Z) Z Z ( bl O hx Z Z Z Z (yh h1 h2) (aa Z) Z Z Z Z Z Z Z (B0 := 13000) Z ( AN.nil)))) Z Z (AOps.step (aA O Z Z Z Z Z) Z Z Z (js O Z (jf [14,3,2,1,0] Z (aB 3 Z Z Z (fun hx => AN.step hx Z Z Z (V O Z) Z Z ( AN.step hx Z Z Z (V O Z) Z Z ( bl O hx Z Z Z Z (rz h1 h2) (aa Z) Z Z Z Z Z Z Z (B0 := 18000) Z ( AN.nil)))) Z Z (AOps.step (aA O Z Z Z Z Z) Z Z Z (js O Z (jf [19,3,2,1,0] Z (aB 11 Z Z Z (fun hx => AN.step hx Z Z Z (V O Z) Z Z ( AN.step hx Z Z Z (V O Z) Z Z ( AN.step hx Z Z Z (V O Z) Z Z ( r9 7 Z Z Z Z (fun hx' => AN.step hx' Z Z Z (V O Z) Z Z ( AN.step hx' Z Z Z (V O Z) Z Z ( AN.step hx' Z Z Z (V O Z) Z Z ( AN.step hx' Z Z Z (aZ O Z Z (by first | omega | (simp only [ba] at *; omega)) (by first | omega | (simp only [ba] at *; omega))) Z Z ( AN.step hx' Z Z Z (gb O Z Z Z Z Z Z Z Z (by first | omega | (simp only [ba] at *; omega)) (kH (by first | omega | (simp only [ba] at *; omega)) (by first | omega | (simp only [ba] at *; omega)))) Z Z ( AN.step hx' Z Z Z (V O Z) Z Z ( AN.step hx' Z Z Z (V O Z) Z Z ( AN.nil)))))))) Z Z ( AN.step hx Z Z Z (ay O Z Z Z Z Z) Z Z ( AN.nil)))))) Z Z (AOps.step (aA O Z Z Z Z Z) Z Z Z (js O Z (jf [2,1,0] Z (jr ?_)))))))))))))))))))))))
 refine ⟨.inl Z, _, ak, _, Z, ?_⟩
 exact congrArg eB (tp t)
theorem yb : MQ h1 h2 97 [dn t] [] (Plain (eB t.zero)) := by
 refine aw ?_ Z
 refine jB 12 h1 h2 Try.func97 Z Z Z fun O hF => ?_
 refine ag (jx O Z (js O Z (aP (j4 O Z Z Z Z (jf [6,2,1,0] Z (aB 4 Z Z Z (fun hx => AN.step hx Z Z Z (V O Z) Z Z ( AN.step hx Z Z Z (V O Z) Z Z ( AN.step hx Z Z Z (br O Z Z Z Z Z Z Z Z) Z Z ( AN.step hx Z Z Z (V O Z) Z Z ( AN.nil))))) Z Z (AOps.step (aA O Z Z Z Z Z) Z Z Z (js O Z (jf [2,0] Z (jr ?_))))))))))
 refine ⟨.inl Z, _, ak, _, Z, ?_⟩
 rw [Bool.cond_false_right]; rfl
inductive Tr where
  | node (s : Sm) (at_ : Int) (kids : List Tr)
mutual
def Tr.d : Tr → D
  | .node s a ks => .ptr [.int .i64 s.kind, .int .i64 s.var, .int .i64 s.event, .int .i64 s.sum.c, dk s.sum.xs, .int .i64 s.index.c, dk s.index.xs, ri s.facts, .int .i64 a, .slc 1 (Trs.d ks)] 0
def Trs.d : List Tr → List (List D)
  | [] => []
  | t :: r => [t.d] :: Trs.d r
end
structure RS where
  vars : List Int
  cells : List Int
  events : List Int
  fuel : Int
  steps : Int
  out : Int
structure RSok (r : RS) : Prop where
  vars : ue r.vars 4 = true
  cells : ue r.cells 8 = true
  lo : 0 ≤ r.steps
  hi : r.steps ≤ r.fuel
  fuel : r.fuel ≤ 2000
  events : (r.events.length : Int) ≤ r.steps
structure RSle (r r' : RS) : Prop where
  ok : RSok r'
  fuel : r'.fuel = r.fuel
  steps : r.steps ≤ r'.steps

mutual
/-- Each element is valid, and has the statements behind it that it dq. -/
def Tr.ok : Tr → Prop
  | .node s _ ks => wy s = true ∧ (ks.length : Int) = xr s.kind ∧ Trs.ok ks
def Trs.ok : List Tr → Prop
  | [] => True
  | t :: r => t.ok ∧ Trs.ok r
end
def r0 (s : Sx) (f : Int) : RS := ⟨s.vars, s.cells, [], f, 0, 0⟩
structure Rs where
  v : List Int
  c : List Int
  ev : List Int
  out : Int
  st : Int
structure Cf where
  n : Nat
  ws : List Nat
  v : List Int
  c : List Int
  ev : List Int
  st : Int

structure Nd where
  kind : Int
  fact : Int
  term : Tm
  mul : List Int
  deriving Inhabited, DecidableEq
structure Sq where
  facts : List Tm
  goal : Tm
  deriving Inhabited, DecidableEq
abbrev Nd.cells (n : Nd) : List D := [.int .i64 n.kind, .int .i64 n.fact, .int .i64 n.term.c, dk n.term.xs, dk n.mul]
abbrev Sq.cells (s : Sq) : List D := [ri s.facts, .int .i64 s.goal.c, dk s.goal.xs]
abbrev aNd (n : Nd) : A := .agg (n.cells.map .d)
abbrev iP (s : Sq) : A := .agg (s.cells.map .d)
abbrev uD (ns : List Nd) : D := .slc 5 (ns.map Nd.cells)
abbrev c7 (ns : List Nd) : A := .c (.d (uD ns))
abbrev rH (ns : List Nd) : B := .row true 5 (ns.map Nd.cells)
theorem rI {L : Nat} (h1 : 4096 ≤ L) (h2 : L ≤ 1073741824) {xs : List Int} : MC Try.prog L 30 [aQ xs] [] (Plain (aQ xs)) := (wi h1 h2).frozen (.v (.c (.whole rfl (bp _).symm)))
theorem uo {L : Nat} (h1 : 4096 ≤ L) (h2 : L ≤ 1073741824) {xs : List Int} : MC Try.prog L 44 [aQ xs] [] (Plain (aQ xs)) := (tb h1 h2).frozen (.v (.c (.whole rfl (bp _).symm)))
abbrev bG (ts : List Tm) : B := .row false 2 (ts.map Tm.cells)

theorem yi : MQ h1 h2 87 [ptr t.cells] [] (Plain (dn t)) := by
 refine MC.data (jB 13 h1 h2 Try.func87 Z Z Z fun O hF => ?_)
 refine ag (jl O Z (jn (ac (j7 O [_,_,_,_,_,_,_,_,_,_,_] [pn [] 0 1, pn [0] 0 1, pn [0,1] 0 1, pn [0,1,2] 0 1, pn [] 0 0, pn [4] 0 0, pn [4,5] 0 0, pn [4,5,6] 0 0, pe (rg 4 4) 0, pn (rg 0 9) 1 1, pe (rg 0 10) 1] [8,10] [_,_,_] (ai (kc O Z (V O Z)) (ai (kc O Z (V O Z)) (ai (kc O Z (V O Z)) (ai (kc O Z (V O Z)) (kc O Z (kc O Z (kc O Z (kc O Z (ai (cg O (B0 := 12000) Z Z Z Z (rI (xs := t.xs) h1 h2) (aa Z) Z Z Z Z Z) (kc O Z (ai (eS O Z Z Z) trivial))))))))))) ?_))))
 refine fT ?_
 refine ⟨.inl Z, _, ak, _, Z, ?_⟩
 exact .v (.agg (aC Z))
theorem uM : MQ h1 h2 37 [dn t] [] (Plain (dn t)) := by
 refine MC.data (jB 9 h1 h2 Try.func37 Z Z Z fun O hF => ?_)
 refine ag (jx O Z (jl O Z (jn (ac (j7 O [_,_,_,_,_,_,_] [pn [] 0 1, pn [0] 0 1, pn [] 0 0, pn [2] 0 0, pe [2,3] 0, pn (rg 0 5) 1 1, pe (rg 0 6) 1] [4,6] [_,_,_] (ai (kc O Z (V O Z)) (ai (kc O Z (V O Z)) (kc O Z (kc O Z (ai (cg O (B0 := 8000) Z Z Z Z (uo (xs := t.xs) h1 h2) (aa Z) Z Z Z Z Z) (kc O Z (ai (eS O Z Z Z) trivial))))))) ?_)))))
 refine fT ?_
 refine ⟨.inl Z, _, ak, _, Z, ?_⟩
 exact .v (.agg (aC Z))
variable {ts : List Tm}
theorem s7 : MQ h1 h2 71 [bo ts] [] (Rows (.c (.rs 0 0 ts.length)) [bG ts]) := by
 refine cy (jB 20 h1 h2 Try.func71 Z Z Z fun O hF => ?_)
 have hl : ts.length ≤ L := by simpa [As.fact, A.fact, M.fact, D.fact, Ds.fact] using hF.1.1
 refine ag (js O Z (aP (AOps.heap (bq O Z Z Z) Z (js O Z (jn (ac (ag (js O Z (jn (ah (al (X := Nat) (fun i => ⟨[(0, bo ts), (3, .c (.rs 900 0 i)), (4, eI i)], [(900, bG (ts.take i))]⟩) (fun i => i ≤ ts.length) (fun i => ts.length - i) 0 ((jZ 5 Z).trans ((au 5 900 Z Z).trans (Ent.to ⟨Z, Z, Z, trivial⟩ Z))) ?_ (fun i hi => ?_))))))))))))
 exact b9 _
 refine ac (ag (j2 O Z Z (cj O Z (js O Z (jf [9,0,3,4] Z (jn (ae O Z Z (fun hc9 => ?_) (fun hc9 => ?_))))))))
 try simp only [ba] at hc9
 refine aj (ac (ah (af (j3 O Z Z Z (j6 O Z Z (jf [15,12,9,0,3,4] Z (ab O Z Z Z Z (yi h1 h2) (aa Z) Z Z Z Z (B0 := 17000) Z Z (jf [16,12,9,0,3,4] Z (AOps.heap (bd O Z Z Z Z Z Z Z Z Z Z Z) Z (jf [17,12,9,0,3,4] Z (AOps.heap (aI (own := false) (zs := (ts.take (i + 1)).map Tm.cells) (n := i + 1) O Z Z Z Z Z Z Z Z Z Z Z Z Z Z Z Z (.row Z (by simp; omega)) (.whole Z Z (.inr ⟨Z, Z⟩)) (by simp) Z (by simp; omega) (by simp; omega) (by rw [List.take_succ_eq_append_getElem (by omega), List.map_append, Int.toNat_natCast, ar (by omega)]; rfl) (by simp; omega)) Z (js O Z (jf [3,9,0,4] Z (jn (af (js O Z (ji O Z (js O Z (jf [4,3,9,0] Z (jn ?_))))))))))))))))))))
 refine ⟨i + 1, (am [18] (e' := [(0, _), (3, _), (4, _)]) Z Z ⟨Z, Z, Z, trivial⟩ Z).trans (au 18 900 Z Z), by omega, by omega⟩
 try simp only [ba] at hc9
 refine aD (ag (j2 O Z Z (jr ?_)))
 obtain rfl : i = ts.length := by omega
 rw [List.take_length]
 refine ⟨.inl Z, _, ak, _, Z, [900], by decide, Z, Z, Z⟩
theorem x6 : MQ h1 h2 36 [bo ts] [] (Rows (.c (.rs 0 0 ts.length)) [bG ts]) := by
 refine cy (jB 19 h1 h2 Try.func36 Z Z Z fun O hF => ?_)
 have hl : ts.length ≤ L := by simpa [As.fact, A.fact, M.fact, D.fact, Ds.fact] using hF.1.1
 refine ag (js O Z (aP (js O Z (jn (ac (ag (js O Z (cj O Z (js O Z (jn (ah (al (X := Nat) (fun i => ⟨[(3, .c (.rs 900 0 i)), (6, bo ts), (7, eI ts.length), (8, eI i)], [(900, bG (ts.take i))]⟩) (fun i => i ≤ ts.length) (fun i => ts.length - i) 0 ((bF 3 900 2 false Z Z).trans (Ent.to ⟨Z, Z, Z, Z, trivial⟩ Z)) ?_ (fun i hi => ?_)))))))))))))
 exact b9 _
 refine ag (js O Z (jn (ac (ae O Z Z (fun hc9 => ?_) (fun hc9 => ?_)))))
 try simp only [ba] at hc9
 refine aj (ac (ah (ag (j6 O Z Z (js O Z (jf [11,9,3,6,7,8] Z (jl O Z (jo O Z (jn (af (j2 O Z Z (ab O Z Z Z Z (uM h1 h2) (aa Z) Z Z Z Z (B0 := 15000) Z Z (jf [14,12,5,11,9,3,6,7,8] Z (AOps.heap (bd O Z Z Z Z Z Z Z Z Z Z Z) Z (jf [15,12,5,11,9,3,6,7,8] Z (AOps.heap (aI (own := false) (zs := (ts.take (i + 1)).map Tm.cells) (n := i + 1) O Z Z Z Z Z Z Z Z Z Z Z Z Z Z Z Z (.row Z (by simp; omega)) (.whole Z Z (.inr ⟨Z, Z⟩)) (by simp) Z (by simp; omega) (by simp; omega) (by rw [List.take_succ_eq_append_getElem (by omega), List.map_append, Int.toNat_natCast, ar (by omega)]; rfl) (by simp; omega)) Z (js O Z (jf [3,5,11,9,6,7,8] Z (jn (af (ji O Z (js O Z (jn ?_)))))))))))))))))))))))
 refine ⟨i + 1, (am [16] (e' := [(3, _), (6, _), (7, _), (8, _)]) Z Z ⟨Z, Z, Z, Z, trivial⟩ Z).trans (au 16 900 Z Z), by omega, by omega⟩
 try simp only [ba] at hc9
 refine aD (ag (j2 O Z Z (jr ?_)))
 obtain rfl : i = ts.length := by omega
 rw [List.take_length]
 refine ⟨.inl Z, _, ak, _, Z, [900], by decide, Z, Z, Z⟩
def aN (xs : List Int) : List Int := (xs.reverse.dropWhile (· == 0)).reverse
theorem ma {xs : List Int} : aN (xs ++ [0]) = aN xs := by simp [aN]
theorem qD {xs : List Int} {x : Int} (h : x ≠ 0) : aN (xs ++ [x]) = xs ++ [x] := by simp [aN, h]
theorem jG {xs : List Int} {n : Nat} (h : n < xs.length) (h0 : xs.getD n default = 0) : aN (xs.take (n + 1)) = aN (xs.take n) := by
 rw [List.take_succ_eq_append_getElem h, ← ar h, h0, ma]
theorem gZ {xs : List Int} {n : Nat} (hn : n ≤ xs.length) (h : n = 0 ∨ xs.getD (n - 1) default ≠ 0) : aN (xs.take n) = xs.take n := by
 cases n with
 | zero => simp [aN]
 | succ n =>
  have h' : xs.getD n default ≠ 0 := by
   rcases h with h | h
   cases h
   exact h
  rw [ar (by omega)] at h'
  rw [List.take_succ_eq_append_getElem (by omega), qD h']
def fQ (c : Int) (xs : List Int) : Tm × Bool := if (Tm.mk c (aN xs)).ok = true then (⟨c, aN xs⟩, true) else (⟨0, []⟩, false)
abbrev fw (r : Tm × Bool) : A := .tup [dn r.1, eB r.2]
def kv (a : Tm) (m : Int) (b : Tm) (n : Int) : List Int := (List.range 10).map fun i => m * a.xs.getD i 0 + n * b.xs.getD i 0
def uG (a : Tm) (m : Int) (b : Tm) (n : Int) : Tm × Bool := fQ (m * a.c + n * b.c) (kv a m b n)
def aT (t : Tm) : Tm × Bool := uG t (-1) ⟨1, []⟩ (-1)
structure Small (t : Tm) : Prop where
  c : num t.c = true
  xs : t.xs.all num = true
theorem cN {a b : Int} (h1 : num a = true) (h2 : num b = true) : -1000000000000 ≤ a * b ∧ a * b ≤ 1000000000000 := by
 have h1 := xA.1 h1
 have h2 := xA.1 h2
 have h3 : a.natAbs ≤ 1000000 := by omega
 have h4 : b.natAbs ≤ 1000000 := by omega
 have h5 := Nat.mul_le_mul h3 h4
 rw [← Int.natAbs_mul] at h5
 omega
theorem Small.get {t : Tm} (h : Small t) (i : Nat) : num (t.xs.getD i 0) = true := by
 by_cases hi : i < t.xs.length
 have : t.xs.getD i 0 = t.xs[i] := by simp [hi]
 rw [this]
 exact List.all_eq_true.1 h.xs _ (List.getElem_mem hi)
 have : t.xs.getD i 0 = 0 := by simp [Nat.not_lt.1 hi]
 rw [this]; decide
theorem bh {t : Tm} (h : t.ok = true) : Small t := by
 simp only [Tm.ok, aX, Bool.not_eq_true'] at h
 refine ⟨?_, h.2⟩
 cases hn : num t.c with
 | true => rfl
 | false => rw [hn] at h; simp at h
theorem qH {a b : Tm} {m n : Int} {i : Nat} (h : i < 10) : (kv a m b n).take (i + 1) = (kv a m b n).take i ++ [m * a.xs.getD i 0 + n * b.xs.getD i 0] := by
 rw [List.take_succ_eq_append_getElem (by simpa [kv] using h)]
 simp [kv]
theorem cV {a b : Tm} {m n : Int} : (kv a m b n).length = 10 := by simp [kv]
theorem kW {t : Tm} (h : t.ok = true) : t.xs.length ≤ 10 := by
 simp only [Tm.ok, aX, Bool.not_eq_true'] at h
 by_cases h1 : (10 : Int) < t.xs.length
 rw [decide_eq_true h1] at h
 cases num t.c <;> simp at h
 omega
theorem kS {c : Int} : MQ h1 h2 15 [eI c, aQ xs] [] (Plain (fw (fQ c xs))) := by
 refine MC.data (jB 32 h1 h2 Try.func15 Z Z Z fun O hF => ?_)
 have hl : xs.length ≤ L := by simpa [As.fact, A.fact, M.fact, D.fact, Ds.fact] using hF.2.1.1
 refine ag (jl O Z (js O Z (aP (js O Z (cj O Z (js O Z (jf [6,5,4,0,1] Z (jn (ac (ah (al (X := Nat) (fun n => ⟨[(0, eI c), (1, aQ xs), (4, .c (.pt 4 0 0)), (6, eI n)], [(4, .box [.d (.int .i64 0), .d .nils])]⟩) (fun n => n ≤ xs.length ∧ aN (xs.take n) = aN xs) (fun n => n) xs.length (Ent.env ⟨Z, Z, Z, Z, trivial⟩) ?_ (fun n hi => ?_))))))))))))
 exact ⟨cu _, by rw [List.take_length]⟩
 refine ac (ag (j3 O Z Z Z (jf [12,0,1,4,6] Z (aB 6 Z Z Z (fun hx => AN.step hx Z Z Z (V O Z) Z Z ( AN.step hx Z Z Z (V O Z) Z Z ( AN.step hx Z Z Z (vF O Z) Z Z ( AN.step hx Z Z Z (vD O Z) Z Z ( AN.step hx Z Z Z (V O Z) Z Z ( AN.step hx Z Z Z (V O Z) Z Z ( AN.nil))))))) Z Z (AOps.step (aA O Z Z Z Z Z) Z Z Z (jf [19,0,1,4,6] Z (jn (ae O Z Z (fun hc19 => ?_) (fun hc19 => ?_)))))))))
 refine aj (ah (af (js O Z (ji O Z (js O Z (jf [6,19,0,1,4] Z (jn ?_)))))))
 rw [Bool.cond_false_right, aX, decide_eq_true_eq, decide_eq_true_eq] at hc19
 obtain ⟨k, hk⟩ : ∃ k, n = k + 1 := ⟨n - 1, by omega⟩
 subst hk
 have hk2 : ((k + 1 : Nat) : Int) - 1 = k := by omega
 rw [hk2] at hc19
 refine ⟨k, Ent.to ⟨Z, Z, Z, by rw [hk2]; rfl, trivial⟩ Z, ⟨by omega, ?_⟩, Nat.lt_succ_self k⟩
 rw [← hi.2, jG (by omega) (by simpa using hc19.2)]
 refine aD (ag (j3 O Z Z Z ?_))
 have hd : aN (xs.take n) = xs.take n := gZ hi.1 (by
  rw [Bool.cond_false_right] at hc19
  rcases Nat.eq_zero_or_pos n with h0 | h0
  ·
   exact .inl h0
  ·
   refine .inr (fun h9 => ?_)
   have e1 : ((n : Int) - 1).toNat = n - 1 := by omega
   rw [e1, h9] at hc19; simp at hc19; omega)
 have ht := hi.2
 rw [hd] at ht
 refine AOps.step ((gV O Z Z ⟨by omega, by simp; omega⟩).cast (v' := aQ (aN xs)) (by rw [← ht]; simp [List.map_take])) Z Z Z (jf [25,22,19,0,1,4,6] Z (ab O Z Z Z Z (rI (xs := aN xs) h1 h2) (aa Z) Z Z Z Z (B0 := 27000) Z Z (js O Z (jf [27,19,0,1,4,6] Z (jl O Z (jo O Z (jn (ac (ag (ao O Z Z Z Z (uN (t := ⟨c, aN xs⟩) h1 h2) (.cons (.c (.pb (cs := Tm.cells ⟨c, aN xs⟩) Z (aC Z))) .nil) Z Z Z Z Z (B0 := 29000) Z (js O Z (jn (ae O Z Z (fun hc29 => ?_) (fun hc29 => ?_))))))))))))))
 refine ag (js O Z (jo O Z (js O Z (jr ?_))))
 refine ⟨.inl Z, _, ak, _, Z, ?_⟩
 have hok : (Tm.mk c (aN xs)).ok = false := by simpa using hc29
 rw [show fQ c xs = (⟨0, []⟩, false) from if_neg (by rw [hok]; decide)]
 exact .tup (.cons (.agg (.cons .d (.cons .nils .nil))) (.cons (.c .d) .nil))
 refine aj (ag (js O Z (jo O Z (js O Z (jr ?_)))))
 refine ⟨.inl Z, _, ak, _, Z, ?_⟩
 have hok : (Tm.mk c (aN xs)).ok = true := by simpa using hc29
 rw [show fQ c xs = (⟨c, aN xs⟩, true) from if_pos hok]
 exact .tup (.cons (.agg (aC Z)) (.cons (.c .d) .nil))
theorem uK {i : Nat} (hi : i < 10) : MQ h1 h2 91 [ptr t.cells, eI i] [] (Plain (eI (t.xs.getD i 0))) := by
 refine aw ?_ Z
 refine jB 19 h1 h2 Try.func91 Z Z Z fun O hF => ?_
 have hl : t.xs.length ≤ L := by simpa [As.fact, A.fact, M.fact, D.fact, Ds.fact] using hF.1.2.1.1
 refine ag (js O Z (jn (ac (ag (j4 O Z Z Z Z (js O Z (cj O Z (js O Z (jf [11,4,0,1] Z (jn (ae O Z Z (fun hc11 => ?_) (fun hc11 => ?_))))))))))))
 try simp only [ba] at hc11
 refine ag (j4 O Z Z Z Z (js O Z (j6 O Z Z (j2 O Z Z (jf [4,0,1] Z (jr ?_))))))
 refine ⟨.inl Z, _, ak, _, Z, ?_⟩
 rw [Int.toNat_natCast]
 have : t.xs.getD i 0 = t.xs.getD i default := rfl
 rfl
 try simp only [ba] at hc11
 refine aj (ag (js O Z (jr ?_)))
 refine ⟨.inl Z, _, ak, _, Z, ?_⟩
 have : t.xs.getD i 0 = 0 := by simp [show t.xs.length ≤ i by omega]
 rw [this]
theorem ye {a b : Tm} {m n : Int} (ha : Small a) (hb : Small b) (hm : num m = true) (hn : num n = true) : MQ h1 h2 75 [ptr a.cells, eI m, ptr b.cells, eI n] [] (Plain (fw (uG a m b n))) := by
 refine MC.data (jB 48 h1 h2 Try.func75 Z Z Z fun O hF => ?_)
 refine ag (jl O Z (js O Z (aP (AOps.heap (bq O Z Z Z) Z (js O Z (jn (ac (ag (js O Z (jn (ah (al (X := Nat) (fun i => ⟨[(0, ptr a.cells), (1, eI m), (2, ptr b.cells), (3, eI n), (8, .c (.pt 8 0 0)), (10, .c (.rs 900 0 i)), (11, eI i)], [(8, .box [.d (.int .i64 0), .d .nils]), (900, bW ((kv a m b n).take i))]⟩) (fun i => i ≤ 10) (fun i => 10 - i) 0 ((au 12 900 Z Z).trans (Ent.to ⟨Z, Z, Z, Z, Z, Z, Z, trivial⟩ Z)) ?_ (fun i hi => ?_)))))))))))))
 exact b9 _
 refine ac (ag (j2 O Z Z (jn (ae O Z Z (fun hc14 => ?_) (fun hc14 => ?_)))))
 try simp only [ba] at hc14
 refine aj (ac (ah (af ?_)))
 have q1 := cN hm (ha.get i)
 have q2 := cN hn (hb.get i)
 refine j4 O Z Z Z Z (ao O Z Z Z Z (uK (t := a) (i := i) h1 h2 (by omega)) (aa Z) Z Z Z Z Z (B0 := 22000) Z (ji O Z (j3 O Z Z Z (jf [25,24,23,22,17,14,13,0,1,2,3,8,10,11] Z (ao O Z Z Z Z (uK (t := b) (i := i) h1 h2 (by omega)) (aa Z) Z Z Z Z Z (B0 := 27000) Z (ji O Z (ji O Z (jf [28,17,14,13,0,1,2,3,8,10,11] Z (AOps.heap (bq O Z Z Z) Z (jf [29,17,14,13,0,1,2,3,8,10,11] Z (AOps.heap (bw (zs := ((kv a m b n).take (i + 1)).map fun n => [.int .i64 n]) (n := i + 1) O Z Z Z Z Z Z Z Z Z Z Z Z Z Z Z Z (.row Z (by simp [cV]; omega)) Z Z (by decide) Z (by simp [cV]; omega) (by simp [cV]; omega) (by rw [qH (by omega), List.map_append]; rfl) (by simp [cV]; omega)) Z (js O Z (jf [10,14,13,0,1,2,3,8,11] Z (jn (af (js O Z (ji O Z (js O Z (jf [11,10,14,13,0,1,2,3,8] Z (jn ?_))))))))))))))))))))
 refine ⟨i + 1, ((am [8,30] (e' := [(0, _), (1, _), (2, _), (3, _), (8, _), (10, _), (11, _)]) Z Z ⟨Z, Z, Z, Z, Z, Z, Z, trivial⟩ Z).trans (au 30 900 Z Z)), by omega, by omega⟩
 try simp only [ba] at hc14
 refine aD (ac ?_)
 obtain rfl : i = 10 := by omega
 rw [List.take_of_length_le (by rw [cV]; decide)]
 have q1 := cN hm ha.c
 have q2 := cN hn hb.c
 refine gY (Ent.freeze 900 (e' := [(10, _), (8, _), (0, _), (1, _), (2, _), (3, _)]) Z (.cons Z (.c (.row Z (by simp [cV]))) (fe [8,0,1,2,3] Z)) (.cons Z (.box (fk Z)) (.skip .nil))) ?_
 refine j7 O [_,_,_,_,_,_,_,_,_,_,_,_,_,_,_,_,_,_,_] [pn [] 0 0, pn [] 0 0, pn [1] 0 0, pn [1,2] 0 0, pn [1,2,3] 0 0, pn (rg 0 5) 0 0, pn [] 0 0, pn [] 0 0, pn [7] 0 0, pn [7,8] 0 0, pn [7,8,9] 0 0, pn (rg 6 5) 0 0, pn (rg 0 12) 0 0, pn [] 0 0, pe (rg 0 14) 0, pn (rg 0 15) 1 1, pn (rg 0 15) 1 1, pe (rg 0 17) 1, pn (rg 0 18) 2 2] [14,17] [_,_,_] (kc O Z (kc O Z (kc O Z (kc O Z (kc O Z (ai (vF O Z) (kc O Z (kc O Z (kc O Z (kc O Z (kc O Z (ai (vF O Z) (ai (vF O Z) (kc O Z (ai (cg O (B0 := 46000) Z Z Z Z (kS (c := m * a.c + n * b.c) (xs := kv a m b n) h1 h2) (aa Z) Z Z Z Z Z) (kc O Z (kc O Z (ai (eS O Z Z Z) (kc O Z trivial))))))))))))))))))) ?_
 refine jw [9,10,8,0,1,2,3] Z (dL ?_)
 refine fT ?_
 refine ⟨.inl Z, _, ak, _, Z, ?_⟩
 exact .tup (.cons (.agg (aC Z)) (.cons (.c .d) .nil))
theorem uL (ht : Small t) : MQ h1 h2 52 [ptr t.cells] [] (Plain (fw (aT t))) := by
 refine MC.data (jB 10 h1 h2 Try.func52 Z Z Z fun O hF => ?_)
 refine ag (jl O Z (js O Z (aP (j2 O Z Z (jf [5,4,3,2] Z (jx O Z (jf [6,4,3,2] Z (az (Ent.freeze 6 (e' := [(6, _), (4, _), (2, _)]) Z (.cons Z (.c (.box (cs := Tm.cells ⟨1, []⟩) Z (.cons .d (.cons .nils .nil)))) (fe [4,2] Z)) (.cons Z (.box (fk Z)) (.skip .nil))) ?_))))))))
 refine ab O Z Z Z Z (ye (a := t) (m := -1) (b := ⟨1, []⟩) (n := -1) h1 h2 ht ⟨by decide, by decide⟩ (by decide) (by decide)) (aa Z) Z Z Z Z (B0 := 8000) Z Z (j2 O Z Z (jf [9,8,2] Z (jo O Z (js O Z (jf [3,2] Z (jr ?_))))))
 refine ⟨.inl Z, _, ak, _, Z, ?_⟩
 exact .tup (.cons (.agg (aC Z)) (.cons (.c .d) .nil))
def iw (s : Sq) : List Tm × Bool := if (aT s.goal).2 = true then (s.facts ++ [(aT s.goal).1], true) else ([], false)
abbrev wa (r : List Tm × Bool) : A := .tup [bo r.1, eB r.2]
theorem yj {s : Sq} (hg : Small s.goal) (hn : s.facts.length ≤ 1000) : MQ h1 h2 48 [ptr s.cells] [] (Plain (wa (iw s))) := by
 refine MC.data (jB 23 h1 h2 Try.func48 Z Z Z fun O hF => ?_)
 refine ag (j2 O Z Z (aP (j3 O Z Z Z (jf [9,3,2,0] Z (ab O Z Z Z Z (uL (t := s.goal) h1 h2 hg) (.cons (.c (.sub Z)) .nil) Z Z Z Z (B0 := 11000) Z Z (j3 O Z Z Z (jf [12,11,3,2,0] Z (jl O Z (jo O Z (js O Z (jf [5,4,3,2,0] Z (jn (ac (ag (j2 O Z Z (jf [14,4,3,2,0] Z (jn (ae O Z Z (fun hc14 => ?_) (fun hc14 => ?_)))))))))))))))))))
 try simp only [ba] at hc14
 refine ag (j2 O Z Z (jr ?_))
 refine ⟨.inl Z, _, ak, _, Z, ?_⟩
 have hok : (aT s.goal).2 = false := hc14
 rw [show iw s = ([], false) from if_neg (by rw [hok]; decide)]
 exact .tup (.cons (.c .nils) (.cons (.c .d) .nil))
 try simp only [ba] at hc14
 refine aj (ac (jw [4,0] Z (uE O [_,_,_,_,_,_,_,_,_,_] [pn [] 0 0, pn [0] 0 0, pn [0,1] 0 0, pn [0,1,2] 0 0, pe [0,1,2,3] 0, pn [] 0 1, pn [5] 0 1, pe [0,1,2,3,4,5,6] 1, pn [0,1,2,3,4,5,6,7] 2 2, pn [0,1,2,3,4,5,6,7,8] 2 2] [4,7] 6 21 (.row false 2 [Tm.cells (aT s.goal).1]) [_,_] [_] [[], [20000]] (kf O Z Z Z (kf O Z Z Z (kf O Z Z Z (kf O Z Z Z (ai (ai (aO (bc (cU O (B0 := 20000) Z Z Z Z (s7 (ts := s.facts) h1 h2) (aa Z) Z Z Z Z)) (bc (cU O (B0 := 20000) Z Z Z Z (s7 (ts := s.facts) h1 h2) (aa Z) Z Z Z Z))) Z) (ai (kf O Z Z Z (kg O Z Z Z)) (ai (ai (ai (bc (df O Z Z Z Z Z Z Z Z Z Z Z Z Z Z)) Z) (ai (bc (df O Z Z Z Z Z Z Z Z Z Z Z Z Z Z)) Z)) (ai (ai (aO trivial (cX (own := false) (xs := s.facts.map Tm.cells) (ys := [Tm.cells (aT s.goal).1]) (zs := (s.facts ++ [(aT s.goal).1]).map Tm.cells) (n := (s.facts ++ [(aT s.goal).1]).length) O Z Z Z Z Z Z Z Z Z Z Z Z Z Z Z Z (.row Z (bp _).symm) (.whole Z Z (.inr ⟨Z, Z⟩)) (by simp) Z (by simp; omega) (by simp; omega) (by simp) (by simp) Z)) Z) (ai (ai (aO trivial (V O Z)) Z) (ai (ai (aO trivial (V O Z)) Z) trivial)))))))))) ?_)))
 refine jw [3,2,4,0] Z (dL ?_)
 refine fT ?_
 refine ⟨.inl Z, _, ak, _, Z, ?_⟩
 have hok : (aT s.goal).2 = true := hc14
 rw [show iw s = (s.facts ++ [(aT s.goal).1], true) from if_pos hok]
 exact .tup (.cons (.c (.whole Z (bp _).symm)) (.cons (.c .d) .nil))
def fA (ts : List Tm) (n : Int) : Bool := ts.all Tm.ok && decide ((ts.length : Int) ≤ n)
def bX (s : Sq) : Bool := fA s.facts 13 && s.goal.ok
def co (x : Int) : Bool := decide (0 ≤ x) && decide (x ≤ 1000000)
def oz (xs : List Int) : Bool := xs.all co && decide ((xs.length : Int) ≤ 20)
def di (n : Nd) : Bool := if n.kind = 1 then (decide (n.fact = 0) && n.term.zero) && oz n.mul else if n.kind = 2 then (decide (n.fact = 0) && n.term.ok) && decide ((n.mul.length : Int) = 0) else if n.kind = 3 then (pG 0 19 n.fact && n.term.zero) && decide ((n.mul.length : Int) = 0) else false
def dl (k : Int) : Int := if k = 1 then -1 else if k = 2 then 1 else 0
def endK : List Nd → Int → Option Nat
  | [], need => if need ≤ 0 then some 0 else none
  | s :: r, need => if need ≤ 0 then some 0 else (endK r (need + dl s.kind)).map (· + 1)
def endP (p : List Nd) (k : Nat) : Int := match endK (p.drop k) 1 with
  | some n => k + n
  | none => -1
def no (p : List Nd) : Bool := (decide ((1 : Int) ≤ p.length) && decide ((p.length : Int) ≤ 60)) && (p.all di && decide (endP p 0 = p.length))
def lR (p : List Nd) (k : Nat) : Nat → Int × Bool
  | 0 => (-1, false)
  | i + 1 => if (p.getD i default).kind = 1 ∨ endP p i ≤ k then lR p k i else (i, decide (i + 1 = k))
theorem n6 {l : List Nd} {n : Int} (h : n ≤ 0) : endK l n = some 0 := by cases l <;> simp [endK, h]
theorem n5 {n : Int} (h : 0 < n) : endK [] n = none := by simp [endK]; omega
theorem gC {l : List Nd} {n : Int} (h : 0 < n) {k : Nat} (hk : k < l.length) : endK (l.drop k) n = (endK (l.drop (k + 1)) (n + dl (l.getD k default).kind)).map (· + 1) := by
 rw [List.drop_eq_getElem_cons hk, ar hk]
 show (if n ≤ 0 then some 0 else _) = _
 rw [if_neg (by omega)]
theorem yk {n : Int} : MQ h1 h2 46 [bo ts, eI n] [] (Plain (eB (fA ts n))) := by
 refine aw ?_ Z
 refine jB 21 h1 h2 Try.func46 Z Z Z fun O hF => ?_
 have hl : ts.length ≤ L := by simpa [As.fact, A.fact, M.fact, D.fact, Ds.fact] using hF.1.1
 refine ag (js O Z (jn (ac (ag (js O Z (jn (ah (al (X := Nat) (fun i => ⟨[(0, bo ts), (1, eI n), (5, eI i)], []⟩) (fun i => i ≤ ts.length ∧ ∀ j (h : j < ts.length), j < i → Tm.ok ts[j] = true) (fun i => ts.length - i) 0 (Ent.env ⟨Z, Z, Z, trivial⟩) ?_ (fun i hi => ?_)))))))))
 exact ⟨b9 _, fun j h hj => absurd hj (Nat.not_lt_zero j)⟩
 refine ac (ag (j2 O Z Z (cj O Z (js O Z (jn (ae O Z Z (fun hc9 => ?_) (fun hc9 => ?_)))))))
 try simp only [ba] at hc9
 refine aj (ac (ah (ag (j2 O Z Z (j6 O Z Z (ao O Z Z Z Z (uN h1 h2) (aa Z) Z Z Z Z Z (B0 := 16000) Z (js O Z (jn (ae O Z Z (fun hc16 => ?_) (fun hc16 => ?_))))))))))
 try simp only [ba] at hc16
 refine ag (js O Z (jr ?_))
 refine ⟨.inl Z, _, ak, _, Z, ?_⟩
 rw [Int.toNat_natCast, ar (by omega)] at hc16
 rw [fA, kO i (by omega) hc16, Bool.false_and]
 try simp only [ba] at hc16
 refine aj (af (js O Z (ji O Z (js O Z (jn ?_)))))
 refine ⟨i + 1, Ent.env ⟨Z, Z, Z, trivial⟩, ⟨by omega, fun j h hj => ?_⟩, by omega⟩
 by_cases e : j = i
 subst e; rw [Int.toNat_natCast, ar h] at hc16; exact hc16
 exact hi.2 j h (by omega)
 try simp only [ba] at hc9
 refine aD (ag (js O Z (cj O Z (j3 O Z Z Z (jr ?_)))))
 refine ⟨.inl Z, _, ak, _, Z, ?_⟩
 rw [fA, mV (fun j hj => hi.2 j hj (by omega)), Bool.true_and]
theorem c82 {s : Sq} : MQ h1 h2 23 [ptr s.cells] [] (Plain (eB (bX s))) := by
 refine aw ?_ Z
 refine jB 14 h1 h2 Try.func23 Z Z Z fun O hF => ?_
 refine ag (js O Z (aP (j4 O Z Z Z Z (ge [(6, _), (2, _), (0, _)] [] ⟨Z, Z, Z, trivial⟩ Z (ao O Z Z Z Z (yk h1 h2) (aa Z) Z Z Z Z Z (B0 := 8000) Z (js O Z (ge [(8, _), (2, _), (0, _)] [] ⟨Z, Z, Z, trivial⟩ Z (aB 4 Z Z Z (fun hx => AN.step hx Z Z Z (V O Z) Z Z ( AN.step hx Z Z Z (V O Z) Z Z ( AN.step hx Z Z Z (V O Z) Z Z ( bl O hx Z Z Z Z (uN (t := s.goal) h1 h2) (.cons (.c (.sub Z)) .nil) Z Z Z Z Z Z Z (B0 := 13000) Z ( AN.nil))))) Z Z (AOps.step (aA O Z Z Z Z Z) Z Z Z (js O Z (jf [2] Z (jr ?_))))))))))))
 refine ⟨.inl Z, _, ak, _, Z, ?_⟩
 rw [Bool.cond_false_right]; rfl
def aE (xs : List Int) : Nat := xs.foldl (fun g x => Nat.gcd g x.natAbs) 0
theorem hY {xs : List Int} {i : Nat} (h : i < xs.length) : aE (xs.take (i + 1)) = Nat.gcd (aE (xs.take i)) (xs.getD i default).natAbs := by
 rw [List.take_succ_eq_append_getElem h, aE, List.foldl_append, ar h]; rfl
theorem kJ {xs : List Int} (h : xs.all num = true) : ∀ {i : Nat}, i ≤ xs.length → aE (xs.take i) ≤ 1000000
 | 0, _ => by simp [aE]
 | i + 1, hi => by
  rw [hY (by omega)]
  have ih := kJ h (i := i) (by omega)
  have hx := xA.1 (List.all_eq_true.1 h _ (List.getElem_mem (show i < xs.length by omega)))
  rw [← ar (by omega)] at hx
  by_cases h0 : (xs.getD i default).natAbs = 0
  rw [h0, Nat.gcd_zero_right]; exact ih
  have := Nat.gcd_le_right (aE (xs.take i)) (Nat.pos_of_ne_zero h0)
  omega
def mx (a b : Int) : Int := if a > b then a else b
theorem rX (x : Int) : mx x (0 - x) = (x.natAbs : Int) := by unfold mx; split <;> omega
def aM (t : Tm) : Tm × Bool := if aE t.xs < 2 then (⟨0, []⟩, false) else
  fQ (if t.c.tmod (aE t.xs) < 0 then t.c.tdiv (aE t.xs) - 1 else t.c.tdiv (aE t.xs)) (t.xs.map fun x => x.tdiv (aE t.xs))
theorem ce {a b : Int} (h : -1000000 ≤ a ∧ a ≤ 1000000) : -1000000 ≤ a.tdiv b ∧ a.tdiv b ≤ 1000000 := by
 have h1 : (a.tdiv b).natAbs ≤ a.natAbs := by rw [Int.natAbs_tdiv]; exact Nat.div_le_self _ _
 omega
theorem dY {a b : Int} (h : -1000000 ≤ a ∧ a ≤ 1000000) : -1000000 ≤ a.tmod b ∧ a.tmod b ≤ 1000000 := by
 have h1 : (a.tmod b).natAbs ≤ a.natAbs := by rw [Int.natAbs_tmod]; exact Nat.mod_le _ _
 omega
def gt (n : Nd) (ctx : List Tm) (first : Bool) : List Tm := if n.kind = 3 then ctx ++ [(aM (ctx.getD n.fact.toNat default)).1] else if first = true then ctx ++ [n.term] else ctx ++ [(aT n.term).1]
def aR (f : Tm → Int) : List Tm → List Int → Int
  | t :: ts, m :: ms => m * f t + aR f ts ms
  | _, _ => 0
theorem ee {f : Tm → Int} : ∀ {ts : List Tm} {ms : List Int} {i : Nat}, i < ts.length → i < ms.length → aR f (ts.take (i + 1)) (ms.take (i + 1)) = aR f (ts.take i) (ms.take i) + ms.getD i default * f (ts.getD i default)
 | [], _, i, h, _ => by simp at h
 | _ :: _, [], i, _, h => by simp at h
 | x :: xs, y :: ys, 0, _, _ => by simp [aR]
 | x :: xs, y :: ys, i + 1, h1, h2 => by
  have := ee (f := f) (ts := xs) (ms := ys) (i := i) (by simpa using h1) (by simpa using h2)
  simp only [List.take_succ_cons, aR, List.getD_cons_succ] at this ⊢
  omega
theorem fY {f : Tm → Int} {ts : List Tm} {ms : List Int} (hf : ∀ t ∈ ts, num (f t) = true) (hm : ms.all num = true) : ∀ {i : Nat}, i ≤ ts.length → i ≤ ms.length → -(i * 1000000000000 : Int) ≤ aR f (ts.take i) (ms.take i) ∧ aR f (ts.take i) (ms.take i) ≤ i * 1000000000000
 | 0, _, _ => by simp [aR]
 | i + 1, h1, h2 => by
  have ih := fY hf hm (i := i) (by omega) (by omega)
  rw [ee (by omega) (by omega)]
  have a1 := hf _ (List.getElem_mem (show i < ts.length by omega))
  have a2 := List.all_eq_true.1 hm _ (List.getElem_mem (show i < ms.length by omega))
  have := cN a2 a1
  rw [ar (by omega), ar (by omega)]
  omega
abbrev ix (k : Nat) : Tm → Int := fun t => t.xs.getD k 0
def be (ts : List Tm) (ms : List Int) : List Int := (List.range 10).map fun k => aR (ix k) ts ms
def kM (ctx : List Tm) (ms : List Int) : Bool := decide (ctx.length = ms.length) && ((be ctx ms).all (fun x => decide (x = 0)) && decide (aR Tm.c ctx ms < 0))
def fj (n : Nd) (ctx : List Tm) : Bool := if n.kind = 1 then kM ctx n.mul else if 20 ≤ ctx.length then false else if n.kind = 2 then (aT n.term).2 else if n.fact ≥ ctx.length then false else (aM (ctx.getD n.fact.toNat default)).2

theorem wb {a b : Int} : MQ h1 h2 58 [eI a, eI b] [] (Plain (eI (mx a b))) := by
 refine aw ?_ Z
 refine jB 10 h1 h2 Try.func58 Z Z Z fun O hF => ?_
 refine ag (js O Z (jn (ac (ag (j3 O Z Z Z (jn (ae O Z Z (fun hc7 => ?_) (fun hc7 => ?_))))))))
 try simp only [ba] at hc7
 refine ag (j2 O Z Z (jr ?_))
 refine ⟨.inl Z, _, ak, _, Z, ?_⟩
 rw [mx, if_pos hc7]
 try simp only [ba] at hc7
 refine aj (ag (j2 O Z Z (jr ?_)))
 refine ⟨.inl Z, _, ak, _, Z, ?_⟩
 rw [mx, if_neg (by omega)]
theorem qz (ht : t.xs.all num = true) : MQ h1 h2 32 [ptr t.cells] [] (Plain (eI (aE t.xs))) := by
 refine aw ?_ Z
 refine jB 40 h1 h2 Try.func32 Z Z Z fun O hF => ?_
 have hl : t.xs.length ≤ L := by simpa [As.fact, A.fact, M.fact, D.fact, Ds.fact] using hF.1.2.1.1
 refine ag (js O Z (aP (js O Z (jn (ac (ag (js O Z (jn (ah (al (X := Nat) (fun i => ⟨[(0, ptr t.cells), (3, eI (aE (t.xs.take i))), (4, eI i)], []⟩) (fun i => i ≤ t.xs.length) (fun i => t.xs.length - i) 0 (Ent.env ⟨Z, Z, Z, trivial⟩) ?_ (fun i hi => ?_)))))))))))
 exact b9 _
 refine ac (ag (j4 O Z Z Z Z (js O Z (cj O Z (js O Z (jf [13,0,3,4] Z (jn (ae O Z Z (fun hc13 => ?_) (fun hc13 => ?_)))))))))
 try simp only [ba] at hc13
 refine aj (ac (ah (ac ?_)))
 have hi0 := hi
 have hx := xA.1 (List.all_eq_true.1 ht _ (List.getElem_mem (show i < t.xs.length by omega)))
 rw [← ar (by omega)] at hx
 have hgs := hY (xs := t.xs) (i := i) (by omega)
 have hgl := kJ ht hi
 have hmx := rX (t.xs.getD i default)
 refine j7 O [_,_,_,_,_,_,_,_,_,_,_,_,_,_,_,_,_] [pn [] 0 0, pn [0] 0 0, pn [0,1] 0 0, pn [0,1,2] 0 0, pn [] 0 0, pn (rg 0 5) 0 0, pn (rg 0 6) 0 0, pn [] 0 0, pn [7] 0 0, pn [7,8] 0 0, pn [7,8,9] 0 0, pn [] 0 0, pn (rg 7 5) 0 0, pn (rg 7 6) 0 0, pn (rg 7 7) 0 0, pe (rg 0 15) 0, pn (rg 0 16) 1 1] [15] [_,_] (kc O Z (kc O Z (kc O Z (kc O Z (kc O Z (ai (vD O Z) (kc O Z (kc O Z (kc O Z (kc O Z (kc O Z (kc O Z (ai (vD O Z) (kc O Z (ai (aZ O Z Z (by rw [Int.toNat_natCast]; omega) (by rw [Int.toNat_natCast]; omega)) (ai (bj O (B0 := 32000) Z Z Z Z ((wb (a := t.xs.getD ((i : Int)).toNat default) (b := 0 - t.xs.getD ((i : Int)).toNat default) h1 h2).plain (u := eI ((t.xs.getD i default).natAbs)) (by rw [Int.toNat_natCast, hmx])) (aa Z) Z Z Z Z Z) (kc O Z trivial))))))))))))))))) ?_
 refine jw [5,13,0,3,4] Z (dL ?_)
 refine ah (al (X := Nat × Nat) (fun z => ⟨[(0, ptr t.cells), (3, eI z.1), (4, eI i), (5, eI z.2)], []⟩) (fun z => Nat.gcd z.1 z.2 = Nat.gcd (aE (t.xs.take i)) (t.xs.getD i default).natAbs ∧ z.1 ≤ 1000000 ∧ z.2 ≤ 1000000) (fun z => z.2) (aE (t.xs.take i), (t.xs.getD i default).natAbs) (Ent.env ⟨Z, Z, Z, Z, trivial⟩) ?_ (fun z hi => ?_))
 exact ⟨Z, hgl, by show (t.xs.getD i default).natAbs ≤ 1000000; omega⟩
 have hz := dY (a := z.1) (b := z.2) (by omega)
 refine ac (ag (j2 O Z Z (jn (ae O Z Z (fun hc33 => ?_) (fun hc33 => ?_)))))
 try simp only [ba] at hc33
 refine aj (ah (ag (j2 O Z Z (AOps.step (vR O Z Z Z Z) Z Z Z (js O Z (jf [6,33,32,0,3,4,5] Z (aP (j2 O Z Z (jn (af (j2 O Z Z (jf [5,3,37,33,32,0,4] Z (jn ?_)))))))))))))
 have hm : z.1 % z.2 < z.2 := Nat.mod_lt _ (by omega)
 refine ⟨(z.2, z.1 % z.2), Ent.env ⟨Z, Z, Z, Z, trivial⟩, ⟨?_, hi.2.2, by show z.1 % z.2 ≤ 1000000; omega⟩, hm⟩
 show Nat.gcd z.2 (z.1 % z.2) = _
 rw [← hi.1, Nat.gcd_comm z.2, ← Nat.gcd_rec, Nat.gcd_comm]
 try simp only [ba] at hc33
 refine aD (af (js O Z (ji O Z (js O Z (jf [4,33,32,0,3,5] Z (jn ?_))))))
 have hz0 : z.2 = 0 := by omega
 have hz1 : z.1 = aE (t.xs.take (i + 1)) := by rw [hgs, ← hi.1, hz0, Nat.gcd_zero_right]
 rw [hz1]
 exact ⟨i + 1, Ent.env ⟨Z, Z, Z, trivial⟩, by omega, by omega⟩
 try simp only [ba] at hc13
 refine aD (ag (j2 O Z Z (jr ?_)))
 refine ⟨.inl Z, _, ak, _, Z, ?_⟩
 obtain rfl : i = t.xs.length := by omega
 rw [List.take_length]
theorem yg (ht : Small t) : MQ h1 h2 17 [ptr t.cells] [] (Plain (fw (aM t))) := by
 refine MC.data (jB 55 h1 h2 Try.func17 Z Z Z fun O hF => ?_)
 have hl : t.xs.length ≤ L := by simpa [As.fact, A.fact, M.fact, D.fact, Ds.fact] using hF.1.2.1.1
 refine ag (jl O Z (js O Z (aP (js O Z (ao O Z Z Z Z (qz (t := t) h1 h2 ht.xs) (aa Z) Z Z Z Z Z (B0 := 10000) Z (js O Z (jf [4,3,2,0] Z (jn (ac (ag (j2 O Z Z (jn (ae O Z Z (fun hc11 => ?_) (fun hc11 => ?_))))))))))))))
 try simp only [ba] at hc11
 refine ag (js O Z (jf [12,10,4,3,2,0] Z (jo O Z (js O Z (jr ?_)))))
 refine ⟨.inl Z, _, ak, _, Z, ?_⟩
 rw [show aM t = (⟨0, []⟩, false) from if_pos (by omega)]
 exact .tup (.cons (.agg (.cons .d (.cons .nils .nil))) (.cons (.c .d) .nil))
 try simp only [ba] at hc11
 refine aj (ag ?_)
 obtain ⟨g, hg⟩ : ∃ g : Int, g = (aE t.xs : Int) := ⟨_, rfl⟩
 rw [← hg]
 rw [← hg] at hc11
 refine AOps.heap (bq O Z Z Z) Z (js O Z (jf [5,10,4,3,2,0] Z (jn (ac (ag (js O Z (jn (ah (al (X := Nat) (fun i => ⟨[(0, ptr t.cells), (2, .c (.pt 2 0 0)), (4, eI g), (5, .c (.rs 900 0 i)), (6, eI i)], [(2, .box [.d (.int .i64 0), .d .nils]), (900, bW ((t.xs.map fun x => x.tdiv g).take i))]⟩) (fun i => i ≤ t.xs.length) (fun i => t.xs.length - i) 0 ((au 13 900 Z Z).trans (Ent.to ⟨Z, Z, Z, Z, Z, trivial⟩ Z)) ?_ (fun i hi => ?_))))))))))
 exact b9 _
 refine ac (ag (j4 O Z Z Z Z (js O Z (cj O Z (js O Z (jf [20,0,2,4,5,6] Z (jn (ae O Z Z (fun hc20 => ?_) (fun hc20 => ?_)))))))))
 try simp only [ba] at hc20
 refine aj (ac (ah (af ?_)))
 have hx := ce (b := g) (xA.1 (List.all_eq_true.1 ht.xs _ (List.getElem_mem (show i < t.xs.length by omega))))
 rw [← ar (by omega)] at hx
 refine j4 O Z Z Z Z (j2 O Z Z (j6 O Z Z (j2 O Z Z (AOps.step (cT O Z Z Z Z (by omega) (by rw [Int.toNat_natCast]; omega) (by rw [Int.toNat_natCast]; omega)) Z Z Z (jf [32,23,20,0,2,4,5,6] Z (AOps.heap (bq O Z Z Z) Z (jf [33,23,20,0,2,4,5,6] Z (AOps.heap (bw (zs := ((t.xs.map fun x => x.tdiv g).take (i + 1)).map fun n => [.int .i64 n]) (n := i + 1) O Z Z Z Z Z Z Z Z Z Z Z Z Z Z Z Z (.row Z (by simp; omega)) Z Z (by decide) Z (by simp; omega) (by simp; omega) (by rw [List.take_succ_eq_append_getElem (by simp; omega), List.map_append, List.getElem_map, Int.toNat_natCast, ar (by omega)]; rfl) (by simp; omega)) Z (js O Z (jf [5,20,0,2,4,6] Z (jn (af (js O Z (ji O Z (js O Z (jf [6,5,20,0,2,4] Z (jn ?_)))))))))))))))))
 refine ⟨i + 1, ((am [2,34] (e' := [(0, _), (2, _), (4, _), (5, _), (6, _)]) Z Z ⟨Z, Z, Z, Z, Z, trivial⟩ Z).trans (au 34 900 Z Z)), by omega, by omega⟩
 try simp only [ba] at hc20
 refine aD (ag ?_)
 have hc0 := xA.1 ht.c
 have hq := ce (b := g) hc0
 have hr := dY (b := g) hc0
 obtain rfl : i = t.xs.length := by omega
 rw [List.take_of_length_le (by simp)]
 refine az (Ent.freeze 900 (e' := [(2, _), (4, _), (5, _), (0, _)]) Z (.cons Z (.keep Z) (.cons Z (.keep Z) (.cons Z (.c (.row Z (by simp))) (fe [0] Z)))) (.cons Z (.box (fk Z)) (.skip .nil))) ?_
 refine j4 O Z Z Z Z (js O Z (AOps.step (vQ O Z Z Z Z) Z Z Z (js O Z (jf [7,2,4,5,0] Z (jn (ac (ag (j4 O Z Z Z Z (js O Z (AOps.step (vR O Z Z Z Z) Z Z Z (js O Z (jf [47,7,2,4,5,0] Z (jn (ae O Z Z (fun hc47 => ?_) (fun hc47 => ?_)))))))))))))))
 try simp only [ba] at hc47
 refine af (js O Z (ji O Z (js O Z (jf [7,47,2,4,5,0] Z (aP (j2 O Z Z (ab O Z Z Z Z (kS (c := _) (xs := t.xs.map fun x => x.tdiv g) h1 h2) (aa Z) Z Z Z Z (B0 := 53000) Z Z (j2 O Z Z (jf [54,53,7,47,2,4,5,0] Z (jo O Z (js O Z (jf [3,7,47,2,4,5,0] Z (jr ?_)))))))))))))
 refine ⟨.inl Z, _, ak, _, Z, ?_⟩
 rw [show aM t = fQ (t.c.tdiv g - 1) (t.xs.map fun x => x.tdiv g) by rw [hg, aM, if_neg (by omega), if_pos (by rw [← hg]; exact hc47)]]
 exact .tup (.cons (.agg (aC Z)) (.cons (.c .d) .nil))
 try simp only [ba] at hc47
 refine aj (ag (j2 O Z Z (ab O Z Z Z Z (kS (c := _) (xs := t.xs.map fun x => x.tdiv g) h1 h2) (aa Z) Z Z Z Z (B0 := 53000) Z Z (j2 O Z Z (jf [54,53,47,7,2,4,5,0] Z (jo O Z (js O Z (jf [3,47,7,2,4,5,0] Z (jr ?_)))))))))
 refine ⟨.inl Z, _, ak, _, Z, ?_⟩
 rw [show aM t = fQ (t.c.tdiv g) (t.xs.map fun x => x.tdiv g) by rw [hg, aM, if_neg (by omega), if_neg (by rw [← hg]; omega)]]
 exact .tup (.cons (.agg (aC Z)) (.cons (.c .d) .nil))
def c6 (ts : List Tm) (ms : List Int) (i j : Nat) : List Int := (List.range 10).map fun k => aR (ix k) (ts.take i) (ms.take i) + (if k < j then ms.getD i default * (ts.getD i default).xs.getD k 0 else 0)
theorem bU {ts ms i j} : (c6 ts ms i j).length = 10 := by simp [c6]
theorem jO {ts ms i} : c6 ts ms i 0 = be (ts.take i) (ms.take i) := by simp [c6, be]
theorem i1 {ts ms i j} (h : j < 10) : (c6 ts ms i j).getD j default = aR (ix j) (ts.take i) (ms.take i) := by
 rw [ar (by rw [bU]; exact h)]
 simp [c6]
theorem jP {ts ms i j} (h : j < 10) : (c6 ts ms i j).set j ((c6 ts ms i j).getD j default + ms.getD i default * (ts.getD i default).xs.getD j default) = c6 ts ms i (j + 1) := by
 rw [i1 h]
 apply List.ext_getElem?
 intro k
 rw [List.getElem?_set]
 by_cases hk : k < 10
 by_cases e : j = k
 subst e
 rw [if_pos Z, if_pos (by rw [bU]; exact h)]
 simp [c6, h]
 rw [if_neg e]
 have h3 : (k < j + 1) = (k < j) := by apply propext; omega
 simp only [c6, List.getElem?_map, List.getElem?_range hk, Option.map_some, h3]
 have h1 : (c6 ts ms i j)[k]? = none := List.getElem?_eq_none (by rw [bU]; omega)
 have h2 : (c6 ts ms i (j + 1))[k]? = none := List.getElem?_eq_none (by rw [bU]; omega)
 rw [if_neg (by omega), h1, h2]
theorem k9 {ts ms i j} (h1 : i < ts.length) (h2 : i < ms.length) (h : (ts.getD i default).xs.length ≤ j) : c6 ts ms i j = be (ts.take (i + 1)) (ms.take (i + 1)) := by
 unfold c6 be
 apply List.map_congr_left
 intro k hk
 rw [ee h1 h2]
 by_cases e : k < j
 rw [if_pos e]
 rw [if_neg e]
 show _ + 0 = _ + _ * (ts.getD i default).xs.getD k 0
 rw [show (ts.getD i default).xs.getD k 0 = 0 by rw [List.getD_eq_getElem?_getD, List.getElem?_eq_none (by omega)]; rfl, Int.mul_zero]
theorem gg {ts ms} : (be ts ms).length = 10 := by simp [be]
structure CtxOk (ctx : List Tm) : Prop where
  ok : ∀ t ∈ ctx, t.ok = true
  len : ctx.length ≤ 1000
theorem CtxOk.get {ctx : List Tm} (h : CtxOk ctx) {i : Nat} (hi : i < ctx.length) : (ctx.getD i default).ok = true := by rw [ar hi]; exact h.ok _ (List.getElem_mem hi)
theorem vf {ms : List Int} (h : ms.all co = true) : ms.all num = true := by
 rw [List.all_eq_true] at h ⊢
 intro x hx
 have := h x hx
 simp only [co, aX, decide_eq_true_eq] at this
 exact xA.2 (by omega)
end Go.Al
