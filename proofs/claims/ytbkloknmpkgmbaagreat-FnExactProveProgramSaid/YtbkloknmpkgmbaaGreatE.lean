/- Programs and their validity; the reference's functions for de. -/
import Derived.Test.YtbkloknmpkgmbaaGreatD
set_option linter.unusedVariables false
set_option linter.unusedSimpArgs false
set_option maxRecDepth 10000
open Go.Proofs
namespace Go.Al
variable {L : Nat} (h1 : 4096 ≤ L) (h2 : L ≤ 1073741824)
def Tm.term (t : Tm) : Bool := t.ok && decide ((t.xs.length : Int) ≤ 4)
def de (ts : List Tm) (n : Int) : Bool := ts.all Tm.term && decide ((ts.length : Int) ≤ n)
def bm (k : Int) : Int := if k = 1 then 2 else if k = 7 then 2 else if k = 8 then 1 else 0
def eW : List Sm → Int → Option Nat
  | [], need => if need ≤ 0 then some 0 else none
  | s :: r, need => if need ≤ 0 then some 0 else (eW r (need + (bm s.kind - 1))).map (· + 1)
def qI (body : List Sm) (k : Nat) : Int := match eW (body.drop k) 1 with
  | some n => k + n
  | none => -1
def Tm.zero (t : Tm) : Bool := decide (t.c = 0) && decide ((t.xs.length : Int) = 0)

variable {t : Tm}
theorem y6 : MQ h1 h2 117 [ptr t.cells] [] (Plain (eB t.term)) := by
 refine aA ?_ Z
 refine jB 13 h1 h2 Tryz.func117 Z Z Z fun O hF => ?_
 refine ah (js O Z (aV (js O Z (ap O Z Z Z Z (xm h1 h2) (aa Z) Z Z Z Z Z (B0 := 5000) Z (js O Z (az 6 Z Z Z (fun hx => ab hx Z Z Z (V O Z) Z Z ( ab hx Z Z Z (V O Z) Z Z ( ab hx Z Z Z (V O Z) Z Z ( ab hx Z Z Z (V O Z) Z Z ( ab hx Z Z Z (dG O Z Z Z Z Z Z Z Z) Z Z ( ab hx Z Z Z (V O Z) Z Z ( AN.nil))))))) Z Z (ac (aC O Z Z Z Z Z) Z Z Z (js O Z (jr ?_)))))))))
 refine ⟨.inl Z, _, am, _, Z, ?_⟩
 rw [Bool.cond_false_right]; rfl
variable {ts : List Tm} {n : Int}
theorem y9 : MQ h1 h2 78 [bN ts, eI n] [] (Plain (eB (de ts n))) := by
 refine aA ?_ Z
 refine jB 21 h1 h2 Tryz.func78 Z Z Z fun O hF => ?_
 have hl : ts.length ≤ L := by simpa [As.fact, A.fact, M.fact, D.fact, Ds.fact] using hF.1.1
 refine ah (js O Z (jn (ag (ah (js O Z (jn (ao (aq (X := Nat) (fun i => ⟨[(0, bN ts), (1, eI n), (5, eI i)], []⟩) (fun i => i ≤ ts.length ∧ ∀ j (h : j < ts.length), j < i → Tm.term ts[j] = true) (fun i => ts.length - i) 0 (Ent.env ⟨Z, Z, Z, trivial⟩) ?_ (fun i hi => ?_)))))))))
 exact ⟨ct _, fun j h hj => absurd hj (Nat.not_lt_zero j)⟩
 refine ag (ah (j2 O Z Z (cu O Z (js O Z (jn (ae O Z Z (fun hc9 => ?_) (fun hc9 => ?_)))))))
 try simp only [aT] at hc9
 refine aj (ag (ao (ah (j2 O Z Z (lz O Z Z (ap O Z Z Z Z (y6 h1 h2) (aa Z) Z Z Z Z Z (B0 := 16000) Z (js O Z (jn (ae O Z Z (fun hc16 => ?_) (fun hc16 => ?_))))))))))
 try simp only [aT] at hc16
 refine ah (js O Z (jr ?_))
 refine ⟨.inl Z, _, am, _, Z, ?_⟩
 rw [Int.toNat_natCast, ax (by omega)] at hc16
 rw [de, gD i (by omega) hc16, Bool.false_and]
 try simp only [aT] at hc16
 refine aj (ak (js O Z (ji O Z (js O Z (jn ?_)))))
 refine ⟨i + 1, Ent.env ⟨Z, Z, Z, trivial⟩, ⟨by omega, fun j h hj => ?_⟩, by omega⟩
 by_cases e : j = i
 subst e; rw [Int.toNat_natCast, ax h] at hc16; exact hc16
 exact hi.2 j h (by omega)
 try simp only [aT] at hc9
 refine aO (ah (js O Z (cu O Z (j3 O Z Z Z (jr ?_)))))
 refine ⟨.inl Z, _, am, _, Z, ?_⟩
 rw [de, ii (fun j hj => hi.2 j hj (by omega)), Bool.true_and]
theorem cW (k : Int) : 0 ≤ bm k ∧ bm k ≤ 2 := by unfold bm; split; decide; split; decide; split <;> decide
theorem jc {l : List Sm} {n : Int} (h : n ≤ 0) : eW l n = some 0 := by cases l <;> simp [eW, h]
theorem nH {n : Int} (h : 0 < n) : eW [] n = none := by simp [eW]; omega
theorem rB {l : List Sm} {n : Int} (h : 0 < n) {k : Nat} (hk : k < l.length) : eW (l.drop k) n = (eW (l.drop (k + 1)) (n + (bm (l.getD k default).kind - 1))).map (· + 1) := by
 rw [List.drop_eq_getElem_cons hk, ax hk]
 show (if n ≤ 0 then some 0 else _) = _
 rw [if_neg (by omega)]
variable {k : Int}
theorem Eg : MQ h1 h2 72 [eI k] [] (Plain (eI (bm k))) := by
 refine aA ?_ Z
 refine jB 9 h1 h2 Tryz.func72 Z Z Z fun O hF => ?_
 refine ah (js O Z (jn (ag (ah (js O Z (jn (ao (ag (ah (j2 O Z Z (jn (ae O Z Z (fun hc4 => ?_) (fun hc4 => ?_)))))))))))))
 try simp only [aT] at hc4
 refine aj (ae O Z Z (fun hc4 => ?_) (fun hc4 => ?_))
 try simp only [aT] at hc4
 refine ah (js O Z (jr ?_))
 refine ⟨.inl Z, _, am, _, Z, ?_⟩
 simp_all [bm]
 try simp only [aT] at hc4
 refine ah (j2 O Z Z (jn (ae O Z Z (fun hc7 => ?_) (fun hc7 => ?_))))
 try simp only [aT] at hc7
 refine ah (js O Z (jr ?_))
 refine ⟨.inl Z, _, am, _, Z, ?_⟩
 simp_all [bm]
 try simp only [aT] at hc7
 refine aj (ah (js O Z (jr ?_)))
 refine ⟨.inl Z, _, am, _, Z, ?_⟩
 simp_all [bm]
 try simp only [aT] at hc4
 refine ak (j2 O Z Z (jn (ae O Z Z (fun hc4 => ?_) (fun hc4 => ?_))))
 try simp only [aT] at hc4
 refine ah (js O Z (jr ?_))
 refine ⟨.inl Z, _, am, _, Z, ?_⟩
 simp_all [bm]
 try simp only [aT] at hc4
 refine ah (j2 O Z Z (jn (ae O Z Z (fun hc7 => ?_) (fun hc7 => ?_))))
 try simp only [aT] at hc7
 refine ah (js O Z (jr ?_))
 refine ⟨.inl Z, _, am, _, Z, ?_⟩
 simp_all [bm]
 try simp only [aT] at hc7
 refine aj (ah (js O Z (jr ?_)))
 refine ⟨.inl Z, _, am, _, Z, ?_⟩
 simp_all [bm]
theorem Bk : MQ h1 h2 165 [ptr t.cells] [] (Plain (eB t.zero)) := by
 refine aA ?_ Z
 refine jB 16 h1 h2 Tryz.func165 Z Z Z fun O hF => ?_
 refine ah (js O Z (aV (j4 O Z Z Z Z (j2 O Z Z (az 6 Z Z Z (fun hx => ab hx Z Z Z (V O Z) Z Z ( ab hx Z Z Z (V O Z) Z Z ( ab hx Z Z Z (V O Z) Z Z ( ab hx Z Z Z (V O Z) Z Z ( ab hx Z Z Z (dG O Z Z Z Z Z Z Z Z) Z Z ( ab hx Z Z Z (V O Z) Z Z ( AN.nil))))))) Z Z (ac (aC O Z Z Z Z Z) Z Z Z (js O Z (jr ?_))))))))
 refine ⟨.inl Z, _, am, _, Z, ?_⟩
 rw [Bool.cond_false_right]; rfl
variable {body : List Sm}
theorem Em {k : Nat} (hk : k ≤ body.length) : MQ h1 h2 119 [.c (.d (gj body)), eI k] [] (Plain (eI (qI body k))) := by
 refine aA ?_ Z
 refine jB 24 h1 h2 Tryz.func119 Z Z Z fun O hF => ?_
 have hl : body.length ≤ L := by simpa [As.fact, A.fact, M.fact, D.fact, Ds.fact] using hF.1.1
 refine ah (js O Z (aV (js O Z (jn (ag (ao (aq (X := Int × Nat) (fun x => ⟨[(0, .c (.d (gj body))), (1, eI (k + x.2)), (5, eI x.1)], []⟩) (fun x => k + x.2 ≤ body.length ∧ (eW (body.drop k) 1 = (eW (body.drop (k + x.2)) x.1).map (· + x.2)) ∧ 0 ≤ x.1 ∧ x.1 ≤ x.2 + 1) (fun x => body.length - (k + x.2)) (1, 0) (Ent.env ⟨Z, by simp [cg, aF], Z, trivial⟩) ?_ (fun x hi => ?_))))))))
 exact ⟨hk, by simp, by decide, by decide⟩
 refine ag (ah (j2 O Z Z (jn (ae O Z Z (fun hc7 => ?_) (fun hc7 => ?_)))))
 try simp only [aT] at hc7
 refine aj (ao (ag (ah (j2 O Z Z (cu O Z (js O Z (jn (ae O Z Z (fun hc11 => ?_) (fun hc11 => ?_)))))))))
 try simp only [aT] at hc11
 refine ah (js O Z (jr ?_))
 refine ⟨.inl Z, _, am, _, Z, ?_⟩
 have e : k + x.2 = body.length := by omega
 rw [qI, hi.2.1, List.drop_of_length_le (by omega), nH hc7]; rfl
 try simp only [aT] at hc11
 refine aj (ah (j3 O Z Z Z (lz O Z Z (j2 O Z Z (ap O Z Z Z Z (Eg h1 h2) (aa Z) Z Z Z Z Z (B0 := 19000) Z ?_)))))
 have hb := cW (body.getD ((k : Int) + x.2).toNat default).kind
 refine ac (cz O Z Z (by omega) (by omega)) Z Z Z (ji O Z (js O Z (jn (ak (js O Z (ji O Z (js O Z (jn ?_))))))))
 have hk2 : k + x.2 < body.length := by omega
 have e := rB hc7 hk2
 rw [e, Option.map_map] at hi
 refine ⟨(x.1 + (bm (body.getD (k + x.2) default).kind - 1), x.2 + 1), Ent.env ⟨Z, ?_, Z, trivial⟩, ⟨by show k + (x.2 + 1) ≤ _; omega, ?_, ?_, ?_⟩, by show body.length - (k + (x.2 + 1)) < _; omega⟩
 exact congrArg (fun z => some (eI z)) (by show (k : Int) + x.2 + 1 = k + (x.2 + 1 : Nat); omega)
 rw [hi.2.1]; exact congrArg (fun f => Option.map f _) (funext fun n => by show n + 1 + x.2 = n + (x.2 + 1); omega)
 show 0 ≤ x.1 + (bm (body.getD (k + x.2) default).kind - 1); have := (cW (body.getD (k + x.2) default).kind).1; omega
 show x.1 + (bm (body.getD (k + x.2) default).kind - 1) ≤ (x.2 + 1 : Nat) + 1; have := (cW (body.getD (k + x.2) default).kind).2; omega
 try simp only [aT] at hc7
 refine aO (ah (j2 O Z Z (jr ?_)))
 refine ⟨.inl Z, _, am, _, Z, ?_⟩
 rw [qI, hi.2.1, jc hc7]; exact congrArg eI (by show (k : Int) + x.2 = k + (0 + x.2 : Nat); omega)
def DP (s : Sm) : Bool := bif bif bif bif decide (s.kind = 2) then true else decide (s.kind = 4) then true else decide (s.kind = 6) then true else decide (s.kind = 7) then true else decide (s.kind = 8)
def DR (s : Sm) : Bool := bif decide (s.kind = 3) then true else decide (s.kind = 4)
def xc (s : Sm) : Bool := bif decide (s.kind = 2) then true else decide (s.kind = 3)
def uU (s : Sm) : Bool := bif bif bif !(decide (0 ≤ s.kind) && decide (s.kind ≤ 8)) then true else !s.sum.term then true else !s.index.term then true else !de s.facts 6
def AB (s : Sm) : Bool := bif bif bif !DP s then !s.sum.zero else false then true else bif !DR s then !s.index.zero else false then true else bif !decide (s.kind = 8) then decide ((0 : Int) < s.facts.length) else false
def AP (s : Sm) : Bool := bif bif xc s then !(decide (0 ≤ s.var) && decide (s.var ≤ 3)) else false then true else bif !xc s then !decide (s.var = 0) else false
def bO (s : Sm) : Bool := bif uU s then false else bif AB s then false else bif AP s then false else bif decide (s.kind = 5) then (decide (0 ≤ s.event) && decide (s.event ≤ 3)) else decide (s.event = 0)
def iQ (b : List Sm) : Bool := (decide ((1 : Int) ≤ b.length) && decide ((b.length : Int) ≤ 30)) && (b.all bO && decide (qI b 0 = b.length))
def iE (p : Pm) : Bool := de p.pre 6 && (iQ p.body && de p.post 6)
def Dn (x : Int) : Bool := decide (-1000000000 ≤ x) && decide (x ≤ 1000000000)
def yo (xs : List Int) (n : Int) : Bool := xs.all Dn && decide ((xs.length : Int) = n)
def Ew : List Int → List Int → Int
  | x :: xs, y :: ys => x * y + Ew xs ys
  | _, _ => 0
def kK (t : Tm) (vars : List Int) : Int := t.c + Ew t.xs vars
theorem Db {x : Int} : num x = true ↔ -1000000 ≤ x ∧ x ≤ 1000000 := by simp [num]
theorem Eh {s : Sm} : MQ h1 h2 118 [ptr s.cells] [] (Plain (eB (bO s))) := by
 refine aA ?_ Z
 refine jB 161 h1 h2 Tryz.func118 Z Z Z fun O hF => ?_
 refine ah (js O Z (aV (j4 O Z Z Z Z (j2 O Z Z (bp [(11, _), (2, _), (0, _)] [] ⟨Z, Z, Z, trivial⟩ Z (az 5 Z Z Z (fun hx => ab hx Z Z Z (V O Z) Z Z ( ab hx Z Z Z (V O Z) Z Z ( ab hx Z Z Z (V O Z) Z Z ( ab hx Z Z Z (V O Z) Z Z ( ab hx Z Z Z (V O Z) Z Z ( AN.nil)))))) Z Z (ac (aL O Z Z Z Z Z) Z Z Z (js O Z (bp [(18, _), (2, _), (0, _)] [] ⟨Z, Z, Z, trivial⟩ Z (az 5 Z Z Z (fun hx => ab hx Z Z Z (V O Z) Z Z ( ab hx Z Z Z (V O Z) Z Z ( ab hx Z Z Z (V O Z) Z Z ( ab hx Z Z Z (V O Z) Z Z ( ab hx Z Z Z (V O Z) Z Z ( AN.nil)))))) Z Z (ac (aL O Z Z Z Z Z) Z Z Z (js O Z (bp [(25, _), (2, _), (0, _)] [] ⟨Z, Z, Z, trivial⟩ Z (az 5 Z Z Z (fun hx => ab hx Z Z Z (V O Z) Z Z ( ab hx Z Z Z (V O Z) Z Z ( ab hx Z Z Z (V O Z) Z Z ( ab hx Z Z Z (V O Z) Z Z ( ab hx Z Z Z (V O Z) Z Z ( AN.nil)))))) Z Z (ac (aL O Z Z Z Z Z) Z Z Z (js O Z (bp [(32, _), (2, _), (0, _)] [] ⟨Z, Z, Z, trivial⟩ Z (az 5 Z Z Z (fun hx => ab hx Z Z Z (V O Z) Z Z ( ab hx Z Z Z (V O Z) Z Z ( ab hx Z Z Z (V O Z) Z Z ( ab hx Z Z Z (V O Z) Z Z ( ab hx Z Z Z (V O Z) Z Z ( AN.nil)))))) Z Z (ac (aL O Z Z Z Z Z) Z Z Z (js O Z (jf [3,2,0] Z (aV (j4 O Z Z Z Z (j2 O Z Z (bp [(44, _), (3, _), (2, _), (0, _)] [] ⟨Z, Z, Z, Z, trivial⟩ Z (az 5 Z Z Z (fun hx => ab hx Z Z Z (V O Z) Z Z ( ab hx Z Z Z (V O Z) Z Z ( ab hx Z Z Z (V O Z) Z Z ( ab hx Z Z Z (V O Z) Z Z ( ab hx Z Z Z (V O Z) Z Z ( AN.nil)))))) Z Z (ac (aL O Z Z Z Z Z) Z Z Z (js O Z (jf [4,3,2,0] Z ?_)))))))))))))))))))))))))))))
 refine aV (j4 O Z Z Z Z (j2 O Z Z (bp [(56, _), (4, _), (3, _), (2, _), (0, _)] [] ⟨Z, Z, Z, Z, Z, trivial⟩ Z (az 5 Z Z Z (fun hx => ab hx Z Z Z (V O Z) Z Z ( ab hx Z Z Z (V O Z) Z Z ( ab hx Z Z Z (V O Z) Z Z ( ab hx Z Z Z (V O Z) Z Z ( ab hx Z Z Z (V O Z) Z Z ( AN.nil)))))) Z Z (ac (aL O Z Z Z Z Z) Z Z Z (js O Z (jf [5,4,3,2,0] Z (jn (ag (ah (j4 O Z Z Z Z (bp [(66, _), (5, _), (4, _), (3, _), (2, _), (0, _)] [] ⟨Z, Z, Z, Z, Z, Z, trivial⟩ Z (ap O Z Z Z Z (AF h1 h2) (aa Z) Z Z Z Z Z (B0 := 68000) Z (j2 O Z Z (bp [(69, _), (5, _), (4, _), (3, _), (2, _), (0, _)] [] ⟨Z, Z, Z, Z, Z, Z, trivial⟩ Z (az 5 Z Z Z (fun hx => ab hx Z Z Z (V O Z) Z Z ( ab hx Z Z Z (V O Z) Z Z ( ab hx Z Z Z (V O Z) Z Z ( bv O hx Z Z Z Z (y6 (t := s.sum) h1 h2) (.cons (.c (.sub Z)) .nil) Z Z Z Z Z Z Z (B0 := 74000) Z ( ab hx Z Z Z (V O Z) Z Z ( AN.nil)))))) Z Z (ac (aL O Z Z Z Z Z) Z Z Z (js O Z (bp [(76, _), (5, _), (4, _), (3, _), (2, _), (0, _)] [] ⟨Z, Z, Z, Z, Z, Z, trivial⟩ Z (az 5 Z Z Z (fun hx => ab hx Z Z Z (V O Z) Z Z ( ab hx Z Z Z (V O Z) Z Z ( ab hx Z Z Z (V O Z) Z Z ( bv O hx Z Z Z Z (y6 (t := s.index) h1 h2) (.cons (.c (.sub Z)) .nil) Z Z Z Z Z Z Z (B0 := 81000) Z ( ab hx Z Z Z (V O Z) Z Z ( AN.nil)))))) Z Z (ac (aL O Z Z Z Z Z) Z Z Z (js O Z (bp [(83, _), (5, _), (4, _), (3, _), (2, _), (0, _)] [] ⟨Z, Z, Z, Z, Z, Z, trivial⟩ Z (az 6 Z Z Z (fun hx => ab hx Z Z Z (V O Z) Z Z ( ab hx Z Z Z (V O Z) Z Z ( ab hx Z Z Z (V O Z) Z Z ( ab hx Z Z Z (V O Z) Z Z ( bv O hx Z Z Z Z (y9 h1 h2) (aa Z) Z Z Z Z Z Z Z (B0 := 89000) Z ( ab hx Z Z Z (V O Z) Z Z ( AN.nil))))))) Z Z (ac (aL O Z Z Z Z Z) Z Z Z (jf [90,5,4,3,2,0] Z (jn (ae O Z Z (fun hc90 => ?_) (fun hc90 => ?_)))))))))))))))))))))))))))))
 refine ah (js O Z (jr ?_))
 refine ⟨.inl Z, _, am, _, Z, ?_⟩
 rw [bO, show uU s = true from hc90]; rfl
 refine aj (ag (ah (j3 O Z Z Z (bp [(93, _), (5, _), (4, _), (2, _), (0, _)] [] ⟨Z, Z, Z, Z, Z, trivial⟩ Z (az 5 Z Z Z (fun hx => ab hx Z Z Z (V O Z) Z Z ( ab hx Z Z Z (V O Z) Z Z ( ab hx Z Z Z (V O Z) Z Z ( bv O hx Z Z Z Z (Bk (t := s.sum) h1 h2) (.cons (.c (.sub Z)) .nil) Z Z Z Z Z Z Z (B0 := 98000) Z ( ab hx Z Z Z (V O Z) Z Z ( AN.nil)))))) Z Z (ac (aC O Z Z Z Z Z) Z Z Z (js O Z (bp [(100, _), (5, _), (4, _), (2, _), (0, _)] [] ⟨Z, Z, Z, Z, Z, trivial⟩ Z (az 9 Z Z Z (fun hx => ab hx Z Z Z (V O Z) Z Z ( ab hx Z Z Z (V O Z) Z Z ( ab hx Z Z Z (V O Z) Z Z ( nq 5 Z Z Z Z (fun hx' => ab hx' Z Z Z (V O Z) Z Z ( ab hx' Z Z Z (V O Z) Z Z ( ab hx' Z Z Z (V O Z) Z Z ( bv O hx' Z Z Z Z (Bk (t := s.index) h1 h2) (.cons (.c (.sub Z)) .nil) Z Z Z Z Z Z Z (B0 := 108000) Z ( ab hx' Z Z Z (V O Z) Z Z ( AN.nil)))))) Z Z ( ab hx Z Z Z (aC O Z Z Z Z Z) Z Z ( AN.nil)))))) Z Z (ac (aL O Z Z Z Z Z) Z Z Z (js O Z (bp [(111, _), (5, _), (2, _), (0, _)] [] ⟨Z, Z, Z, Z, trivial⟩ Z (az 13 Z Z Z (fun hx => ab hx Z Z Z (V O Z) Z Z ( ab hx Z Z Z (V O Z) Z Z ( ab hx Z Z Z (V O Z) Z Z ( ab hx Z Z Z (V O Z) Z Z ( ab hx Z Z Z (V O Z) Z Z ( ab hx Z Z Z (V O Z) Z Z ( nq 6 Z Z Z Z (fun hx' => ab hx' Z Z Z (V O Z) Z Z ( ab hx' Z Z Z (V O Z) Z Z ( ab hx' Z Z Z (V O Z) Z Z ( ab hx' Z Z Z (V O Z) Z Z ( ab hx' Z Z Z (dG O Z Z Z Z Z Z Z Z) Z Z ( ab hx' Z Z Z (V O Z) Z Z ( AN.nil))))))) Z Z ( ab hx Z Z Z (aC O Z Z Z Z Z) Z Z ( AN.nil))))))))) Z Z (ac (aL O Z Z Z Z Z) Z Z Z (jf [125,5,2,0] Z (jn (ae O Z Z (fun hc125 => ?_) (fun hc125 => ?_))))))))))))))))))
 refine ah (js O Z (jr ?_))
 refine ⟨.inl Z, _, am, _, Z, ?_⟩
 rw [bO, show uU s = false from hc90, show AB s = true from hc125]; rfl
 refine aj (ag (ah (j2 O Z Z (bp [(127, _), (5, _), (2, _), (0, _)] [] ⟨Z, Z, Z, Z, trivial⟩ Z (az 6 Z Z Z (fun hx => ab hx Z Z Z (V O Z) Z Z ( ab hx Z Z Z (V O Z) Z Z ( ab hx Z Z Z (V O Z) Z Z ( ab hx Z Z Z (V O Z) Z Z ( bv O hx Z Z Z Z (AF h1 h2) (aa Z) Z Z Z Z Z Z Z (B0 := 133000) Z ( ab hx Z Z Z (V O Z) Z Z ( AN.nil))))))) Z Z (ac (aC O Z Z Z Z Z) Z Z Z (js O Z (bp [(135, _), (5, _), (2, _), (0, _)] [] ⟨Z, Z, Z, Z, trivial⟩ Z (az 9 Z Z Z (fun hx => ab hx Z Z Z (V O Z) Z Z ( ab hx Z Z Z (V O Z) Z Z ( ab hx Z Z Z (V O Z) Z Z ( nq 5 Z Z Z Z (fun hx' => ab hx' Z Z Z (V O Z) Z Z ( ab hx' Z Z Z (V O Z) Z Z ( ab hx' Z Z Z (V O Z) Z Z ( ab hx' Z Z Z (V O Z) Z Z ( ab hx' Z Z Z (V O Z) Z Z ( AN.nil)))))) Z Z ( ab hx Z Z Z (aC O Z Z Z Z Z) Z Z ( AN.nil)))))) Z Z (ac (aL O Z Z Z Z Z) Z Z Z (jf [145,2,0] Z (jn (ae O Z Z (fun hc145 => ?_) (fun hc145 => ?_))))))))))))))
 refine ah (js O Z (jr ?_))
 refine ⟨.inl Z, _, am, _, Z, ?_⟩
 rw [bO, show uU s = false from hc90, show AB s = false from hc125, show AP s = true from hc145]; rfl
 refine aj (ag (ah (j4 O Z Z Z Z (js O Z (jf [150,2,0] Z (jn (ae O Z Z (fun hc150 => ?_) (fun hc150 => ?_))))))))
 refine ah (j4 O Z Z Z Z (bp [(154, _), (2, _), (0, _)] [] ⟨Z, Z, Z, trivial⟩ Z (ap O Z Z Z Z (AF h1 h2) (aa Z) Z Z Z Z Z (B0 := 156000) Z (js O Z (jf [2,0] Z (jr ?_))))))
 refine ⟨.inl Z, _, am, _, Z, ?_⟩
 rw [bO, show uU s = false from hc90, show AB s = false from hc125, show AP s = false from hc145, hc150]; rfl
 refine aj (ah (j4 O Z Z Z Z (j2 O Z Z (jf [2,0] Z (jr ?_)))))
 refine ⟨.inl Z, _, am, _, Z, ?_⟩
 rw [bO, show uU s = false from hc90, show AB s = false from hc125, show AP s = false from hc145, hc150]; rfl
theorem En {b : List Sm} : MQ h1 h2 79 [.c (.d (gj b))] [] (Plain (eB (iQ b))) := by
 refine aA ?_ Z
 refine jB 24 h1 h2 Tryz.func79 Z Z Z fun O hF => ?_
 have hl : b.length ≤ L := by simpa [As.fact, A.fact, M.fact, D.fact, Ds.fact] using hF.1.1
 refine ah (js O Z (jn (ag (ah (js O Z (cu O Z (ap O Z Z Z Z (AF h1 h2) (aa Z) Z Z Z Z Z (B0 := 7000) Z (js O Z (jn (ae O Z Z (fun hc7 => ?_) (fun hc7 => ?_)))))))))))
 try simp only [aT] at hc7
 refine ah (js O Z (jr ?_))
 refine ⟨.inl Z, _, am, _, Z, ?_⟩
 rw [iQ, show (decide ((1 : Int) ≤ b.length) && decide ((b.length : Int) ≤ 30)) = false from hc7, Bool.false_and]
 try simp only [aT] at hc7
 refine aj (ag (ah (js O Z (jn (ao (aq (X := Nat) (fun i => ⟨[(0, .c (.d (gj b))), (3, eI i)], []⟩) (fun i => i ≤ b.length ∧ ∀ j (h : j < b.length), j < i → bO b[j] = true) (fun i => b.length - i) 0 (Ent.env ⟨Z, Z, trivial⟩) ?_ (fun i hi => ?_)))))))
 exact ⟨ct _, fun j h hj => absurd hj (Nat.not_lt_zero j)⟩
 refine ag (ah (j2 O Z Z (cu O Z (js O Z (jn (ae O Z Z (fun hc11 => ?_) (fun hc11 => ?_)))))))
 try simp only [aT] at hc11
 refine aj (ag (ao (ah (j2 O Z Z (lz O Z Z (ap O Z Z Z Z (Eh h1 h2) (aa Z) Z Z Z Z Z (B0 := 18000) Z (js O Z (jn (ae O Z Z (fun hc18 => ?_) (fun hc18 => ?_))))))))))
 try simp only [aT] at hc18
 refine ah (js O Z (jr ?_))
 refine ⟨.inl Z, _, am, _, Z, ?_⟩
 rw [Int.toNat_natCast, ax (by omega)] at hc18
 rw [iQ, gD i (by omega) hc18, Bool.false_and, Bool.and_false]
 try simp only [aT] at hc18
 refine aj (ak (js O Z (ji O Z (js O Z (jn ?_)))))
 refine ⟨i + 1, Ent.env ⟨Z, Z, trivial⟩, ⟨by omega, fun j h hj => ?_⟩, by omega⟩
 by_cases e : j = i
 subst e; rw [Int.toNat_natCast, ax h] at hc18; exact hc18
 exact hi.2 j h (by omega)
 try simp only [aT] at hc11
 refine aO (ah (js O Z (ap O Z Z Z Z (Em (k := 0) h1 h2 (ct _)) (aa Z) Z Z Z Z Z (B0 := 21000) Z (js O Z (cu O Z (j2 O Z Z (jr ?_)))))))
 refine ⟨.inl Z, _, am, _, Z, ?_⟩
 rw [iQ, show (decide ((1 : Int) ≤ b.length) && decide ((b.length : Int) ≤ 30)) = true from hc7, ii (fun j hj => hi.2 j hj (by omega)), Bool.true_and, Bool.true_and]
theorem AH {p : Pm} : MQ h1 h2 42 [ptr p.data] [] (Plain (eB (iE p))) := by
 refine aA ?_ Z
 refine jB 22 h1 h2 Tryz.func42 Z Z Z fun O hF => ?_
 refine ah (js O Z (aV (j4 O Z Z Z Z (bp [(6, _), (2, _), (0, _)] [] ⟨Z, Z, Z, trivial⟩ Z (ap O Z Z Z Z (y9 h1 h2) (aa Z) Z Z Z Z Z (B0 := 8000) Z (js O Z (bp [(8, _), (2, _), (0, _)] [] ⟨Z, Z, Z, trivial⟩ Z (az 5 Z Z Z (fun hx => ab hx Z Z Z (V O Z) Z Z ( ab hx Z Z Z (V O Z) Z Z ( ab hx Z Z Z (V O Z) Z Z ( ab hx Z Z Z (V O Z) Z Z ( bv O hx Z Z Z Z (En h1 h2) (aa Z) Z Z Z Z Z Z Z (B0 := 14000) Z ( AN.nil)))))) Z Z (ac (aC O Z Z Z Z Z) Z Z Z (js O Z (bp [(15, _), (2, _), (0, _)] [] ⟨Z, Z, Z, trivial⟩ Z (az 5 Z Z Z (fun hx => ab hx Z Z Z (V O Z) Z Z ( ab hx Z Z Z (V O Z) Z Z ( ab hx Z Z Z (V O Z) Z Z ( ab hx Z Z Z (V O Z) Z Z ( bv O hx Z Z Z Z (y9 h1 h2) (aa Z) Z Z Z Z Z Z Z (B0 := 21000) Z ( AN.nil)))))) Z Z (ac (aC O Z Z Z Z Z) Z Z Z (js O Z (jf [2] Z (jr ?_))))))))))))))))
 refine ⟨.inl Z, _, am, _, Z, ?_⟩
 rw [Bool.cond_false_right, Bool.cond_false_right, Bool.and_assoc]; rfl
abbrev cL (t : Tm) : A := .agg (t.cells.map .d)
def j0 (lo hi x : Int) : Bool := decide (lo ≤ x) && decide (x ≤ hi)

variable {x : Int}
theorem vg {lo hi : Int} : MQ h1 h2 84 [eI x, eI lo, eI hi] [] (Plain (eB (j0 lo hi x))) := by
 refine aA ?_ Z
 refine jB 15 h1 h2 Tryz.func84 Z Z Z fun O hF => ?_
 refine ah (js O Z (aV (j4 O Z Z Z Z (az 3 Z Z Z (fun hx => ab hx Z Z Z (V O Z) Z Z ( ab hx Z Z Z (V O Z) Z Z ( ab hx Z Z Z (V O Z) Z Z ( AN.nil)))) Z Z (ac (aC O Z Z Z Z Z) Z Z Z (js O Z (jr ?_)))))))
 refine ⟨.inl Z, _, am, _, Z, ?_⟩
 rw [Bool.cond_false_right]; rfl
variable {xs : List Int}
theorem xj {lo hi : Int} : MQ h1 h2 125 [bH xs, eI lo, eI hi] [] (Plain (eB (xs.all (j0 lo hi)))) := by
 refine aA ?_ Z
 refine jB 21 h1 h2 Tryz.func125 Z Z Z fun O hF => ?_
 have hl : xs.length ≤ L := by simpa [As.fact, A.fact, M.fact, D.fact, Ds.fact] using hF.1.1
 refine ah (js O Z (jn (ag (ah (js O Z (cu O Z (js O Z (jn (ao (aq (X := Nat) (fun i => ⟨[(1, eI lo), (2, eI hi), (9, bH xs), (10, eI xs.length), (11, eI i)], []⟩) (fun i => i ≤ xs.length ∧ ∀ j (h : j < xs.length), j < i → j0 lo hi xs[j] = true) (fun i => xs.length - i) 0 (Ent.env ⟨Z, Z, Z, Z, Z, trivial⟩) ?_ (fun i hi => ?_)))))))))))
 exact ⟨ct _, fun j h hj => absurd hj (Nat.not_lt_zero j)⟩
 refine ah (js O Z (jn (ag (ae O Z Z (fun hc12 => ?_) (fun hc12 => ?_)))))
 try simp only [aT] at hc12
 refine aj (ag (ao (ah (lz O Z Z (j2 O Z Z (aV (j3 O Z Z Z (ap O Z Z Z Z (vg h1 h2) (aa Z) Z Z Z Z Z (B0 := 19000) Z (js O Z (jn (ae O Z Z (fun hc19 => ?_) (fun hc19 => ?_))))))))))))
 try simp only [aT] at hc19
 refine ah (js O Z (jr ?_))
 refine ⟨.inl Z, _, am, _, Z, ?_⟩
 rw [Int.toNat_natCast, ax (by omega)] at hc19
 rw [gD i (by omega) hc19]
 try simp only [aT] at hc19
 refine aj (ak (ji O Z (js O Z (jn ?_))))
 refine ⟨i + 1, Ent.env ⟨Z, Z, Z, Z, Z, trivial⟩, ⟨by omega, fun j h hj => ?_⟩, by omega⟩
 by_cases e : j = i
 subst e; rw [Int.toNat_natCast, ax h] at hc19; exact hc19
 exact hi.2 j h (by omega)
 try simp only [aT] at hc12
 refine aO (ah (js O Z (jr ?_)))
 refine ⟨.inl Z, _, am, _, Z, ?_⟩
 rw [ii (fun j hj => hi.2 j hj (by omega))]
theorem Ec : MQ h1 h2 175 [eI x] [] (Plain (eB (num x))) := by
 refine aA ?_ Z
 refine jB 5 h1 h2 Tryz.func175 Z Z Z fun O hF => ?_
 refine ah (js O Z (aV (js O Z (ap O Z Z Z Z (vg h1 h2) (aa Z) Z Z Z Z Z (B0 := 5000) Z (js O Z (jr ?_))))))
 refine ⟨.inl Z, _, am, _, Z, ?_⟩
 first | rfl | skip
theorem xv (t : Tm) : (bif bif bif decide ((t.xs.length : Int) ≤ 10) then num t.c else false then t.xs.all num else false then bif decide ((t.xs.length : Int) = 0) then true else !decide (t.xs.getD ((t.xs.length : Int) - 1).toNat default = 0) else false) = t.ok := by
 unfold Tm.ok
 cases num t.c <;> cases t.xs.all num <;> simp
 by_cases h0 : t.xs = []
 simp [h0]
 have h1 : 0 < t.xs.length := List.length_pos_iff.2 h0
 by_cases h2 : (t.xs.length : Int) ≤ 10
 have h3 : ¬ (10 : Int) < t.xs.length := by omega
 simp [h0, h1, h2, h3]
 have h3 : (10 : Int) < t.xs.length := by omega
 simp [h2, h3]
theorem mU : MQ h1 h2 134 [cL t] [] (Plain (eB t.ok)) := by
 refine aA ?_ Z
 refine jB 32 h1 h2 Tryz.func134 Z Z Z fun O hF => ?_
 have hl : t.xs.length ≤ L := by simpa [As.fact, A.fact, M.fact, Ms.fact, D.fact, Ds.fact] using hF.1.2.1.1
 refine ah (jx O Z (js O Z (aV (j2 O Z Z (cu O Z (js O Z (jf [3,2,1,0] Z (aV (j3 O Z Z Z (jf [9,3,2,1,0] Z (az 3 Z Z Z (fun hx => ab hx Z Z Z (V O Z) Z Z ( ab hx Z Z Z (V O Z) Z Z ( bv O hx Z Z Z Z (Ec h1 h2) (aa Z) Z Z Z Z Z Z Z (B0 := 13000) Z ( AN.nil)))) Z Z (ac (aC O Z Z Z Z Z) Z Z Z (js O Z (jf [14,3,2,1,0] Z (az 3 Z Z Z (fun hx => ab hx Z Z Z (V O Z) Z Z ( ab hx Z Z Z (V O Z) Z Z ( bv O hx Z Z Z Z (xj h1 h2) (aa Z) Z Z Z Z Z Z Z (B0 := 18000) Z ( AN.nil)))) Z Z (ac (aC O Z Z Z Z Z) Z Z Z (js O Z (jf [19,3,2,1,0] Z (az 11 Z Z Z (fun hx => ab hx Z Z Z (V O Z) Z Z ( ab hx Z Z Z (V O Z) Z Z ( ab hx Z Z Z (V O Z) Z Z ( nq 7 Z Z Z Z (fun hx' => ab hx' Z Z Z (V O Z) Z Z ( ab hx' Z Z Z (V O Z) Z Z ( ab hx' Z Z Z (V O Z) Z Z ( ab hx' Z Z Z (cz O Z Z (by first | omega | (simp only [aT] at *; omega)) (by first | omega | (simp only [aT] at *; omega))) Z Z ( ab hx' Z Z Z (bQ O Z Z Z Z Z Z Z Z (by first | omega | (simp only [aT] at *; omega)) (ql (by first | omega | (simp only [aT] at *; omega)) (by first | omega | (simp only [aT] at *; omega)))) Z Z ( ab hx' Z Z Z (V O Z) Z Z ( ab hx' Z Z Z (V O Z) Z Z ( AN.nil)))))))) Z Z ( ab hx Z Z Z (aL O Z Z Z Z Z) Z Z ( AN.nil)))))) Z Z (ac (aC O Z Z Z Z Z) Z Z Z (js O Z (jf [2,1,0] Z (jr ?_)))))))))))))))))))))))
 refine ⟨.inl Z, _, am, _, Z, ?_⟩
 exact congrArg eB (xv t)
theorem qM : MQ h1 h2 138 [cL t] [] (Plain (eB t.term)) := by
 refine aA ?_ Z
 refine jB 11 h1 h2 Tryz.func138 Z Z Z fun O hF => ?_
 refine ah (jx O Z (js O Z (aV (js O Z (ap O Z Z Z Z (mU h1 h2) (aa Z) Z Z Z Z Z (B0 := 5000) Z (js O Z (jf [5,2,1,0] Z (az 4 Z Z Z (fun hx => ab hx Z Z Z (V O Z) Z Z ( ab hx Z Z Z (V O Z) Z Z ( ab hx Z Z Z (dG O Z Z Z Z Z Z Z Z) Z Z ( ab hx Z Z Z (V O Z) Z Z ( AN.nil))))) Z Z (ac (aC O Z Z Z Z Z) Z Z Z (js O Z (jf [2,0] Z (jr ?_))))))))))))
 refine ⟨.inl Z, _, am, _, Z, ?_⟩
 rw [Bool.cond_false_right]; rfl
theorem Bh : MQ h1 h2 195 [cL t] [] (Plain (eB t.zero)) := by
 refine aA ?_ Z
 refine jB 12 h1 h2 Tryz.func195 Z Z Z fun O hF => ?_
 refine ah (jx O Z (js O Z (aV (j4 O Z Z Z Z (jf [6,2,1,0] Z (az 4 Z Z Z (fun hx => ab hx Z Z Z (V O Z) Z Z ( ab hx Z Z Z (V O Z) Z Z ( ab hx Z Z Z (dG O Z Z Z Z Z Z Z Z) Z Z ( ab hx Z Z Z (V O Z) Z Z ( AN.nil))))) Z Z (ac (aC O Z Z Z Z Z) Z Z Z (js O Z (jf [2,0] Z (jr ?_))))))))))
 refine ⟨.inl Z, _, am, _, Z, ?_⟩
 rw [Bool.cond_false_right]; rfl
theorem Ed : MQ h1 h2 137 [cL t] [] (Plain (eB !t.term)) := by
 refine aA ?_ Z
 refine jB 6 h1 h2 Tryz.func137 Z Z Z fun O hF => ?_
 refine ah (jx O Z (js O Z (aV (js O Z (jf [3,2,0] Z (ap O Z Z Z Z (qM h1 h2) (aa Z) Z Z Z Z Z (B0 := 5000) Z (j2 O Z Z (jf [2,0] Z (jr ?_)))))))))
 refine ⟨.inl Z, _, am, _, Z, ?_⟩
 first | rfl | skip
def r6 (ts : List Tm) : Int := if ts.all Tm.term = true then -1 else (ts.findIdx fun t => !t.term : Nat)
theorem wS {ts : List Tm} (h : ∀ j (hj : j < ts.length), Tm.term ts[j] = true) : r6 ts = -1 := by rw [r6, if_pos (ii h)]
theorem xO {ts : List Tm} {i : Nat} (hi : i < ts.length) (h : ∀ j (hj : j < ts.length), j < i → Tm.term ts[j] = true) (hn : Tm.term ts[i] = false) : r6 ts = i := by
 rw [r6, if_neg (by rw [gD i hi hn]; decide)]
 exact congrArg Nat.cast ((List.findIdx_eq hi).2 ⟨by simp [hn], fun j hj => by simp [h j (by omega) hj]⟩)
theorem wR {ts : List Tm} : decide (r6 ts ≥ 0) = !ts.all Tm.term := by
 unfold r6
 cases h : ts.all Tm.term <;> simp
theorem D6 : MQ h1 h2 176 [bN ts, .c (.fn 137 [])] [] (Plain (eI (r6 ts))) := by
 refine aA ?_ Z
 refine jB 19 h1 h2 Tryz.func176 Z Z Z fun O hF => ?_
 have hl : ts.length ≤ L := by simpa [As.fact, A.fact, M.fact, D.fact, Ds.fact] using hF.1.1
 refine ah (js O Z (jn (ag (ah (js O Z (cu O Z (js O Z (jn (ao (aq (X := Nat) (fun i => ⟨[(0, bN ts), (1, .c (.fn 137 [])), (7, eI ts.length), (8, eI i)], []⟩) (fun i => i ≤ ts.length ∧ ∀ j (h : j < ts.length), j < i → Tm.term ts[j] = true) (fun i => ts.length - i) 0 (Ent.env ⟨Z, Z, Z, Z, trivial⟩) ?_ (fun i hi => ?_)))))))))))
 exact ⟨ct _, fun j h hj => absurd hj (Nat.not_lt_zero j)⟩
 refine ah (js O Z (jn (ag (ae O Z Z (fun hc9 => ?_) (fun hc9 => ?_)))))
 try simp only [aT] at hc9
 refine aj (ag (ao (ah (j2 O Z Z (aV (j3 O Z Z Z (lz O Z Z (js O Z (ap O Z Z Z Z (Ed h1 h2) (aa Z) Z Z Z Z Z (B0 := 17000) Z (jn (ae O Z Z (fun hc16 => ?_) (fun hc16 => ?_))))))))))))
 try simp only [aT] at hc16
 refine ah (j2 O Z Z (jr ?_))
 refine ⟨.inl Z, _, am, _, Z, ?_⟩
 rw [Int.toNat_natCast, ax (by omega)] at hc16
 rw [xO (by omega) hi.2 hc16]
 try simp only [aT] at hc16
 refine aj (ak (ji O Z (js O Z (jn ?_))))
 refine ⟨i + 1, Ent.env ⟨Z, Z, Z, Z, trivial⟩, ⟨by omega, fun j h hj => ?_⟩, by omega⟩
 by_cases e : j = i
 subst e; rw [Int.toNat_natCast, ax h] at hc16; exact hc16
 exact hi.2 j h (by omega)
 try simp only [aT] at hc9
 refine aO (ah (js O Z (jr ?_)))
 refine ⟨.inl Z, _, am, _, Z, ?_⟩
 rw [wS (fun j hj => hi.2 j hj (by omega))]
theorem Ee : MQ h1 h2 136 [bN ts, .c (.fn 137 [])] [] (Plain (eB !ts.all Tm.term)) := by
 refine aA ?_ Z
 refine jB 9 h1 h2 Tryz.func136 Z Z Z fun O hF => ?_
 refine ah (js O Z (aV (j2 O Z Z (ap O Z Z Z Z (D6 h1 h2) (.cons (.c .d) (.cons (.c (.fn .nil)) .nil)) Z Z Z Z Z (B0 := 8000) Z (j2 O Z Z (jr ?_))))))
 refine ⟨.inl Z, _, am, _, Z, ?_⟩
 exact congrArg eB wR
theorem y8 : MQ h1 h2 95 [bN ts, eI n] [] (Plain (eB (de ts n))) := by
 refine aA ?_ Z
 refine jB 14 h1 h2 Tryz.func95 Z Z Z fun O hF => ?_
 refine ah (js O Z (aV (js O Z (cu O Z (j3 O Z Z Z (az 3 Z Z Z (fun hx => ab hx Z Z Z (V O Z) Z Z ( bv O hx Z Z Z Z (Ee h1 h2) (.cons (.c .d) (.cons (.c (.fn .nil)) .nil)) Z Z Z Z Z Z Z (B0 := 12000) Z ( ab hx Z Z Z (V O Z) Z Z ( AN.nil)))) Z Z (ac (aC O Z Z Z Z Z) Z Z Z (js O Z (jr ?_)))))))))
 refine ⟨.inl Z, _, am, _, Z, ?_⟩
 rw [Bool.cond_false_right, Bool.not_not, Bool.and_comm]; rfl
theorem Bj : MQ h1 h2 196 [eI x] [] (Plain (eB (j0 0 3 x))) := by
 refine aA ?_ Z
 refine jB 5 h1 h2 Tryz.func196 Z Z Z fun O hF => ?_
 refine ah (js O Z (aV (js O Z (ap O Z Z Z Z (vg h1 h2) (aa Z) Z Z Z Z Z (B0 := 5000) Z (js O Z (jr ?_))))))
 refine ⟨.inl Z, _, am, _, Z, ?_⟩
 first | rfl | skip
theorem D7 : MQ h1 h2 197 [eI x] [] (Plain (eB (j0 0 3 x))) := by
 refine aA ?_ Z
 refine jB 5 h1 h2 Tryz.func197 Z Z Z fun O hF => ?_
 refine ah (js O Z (aV (js O Z (ap O Z Z Z Z (vg h1 h2) (aa Z) Z Z Z Z Z (B0 := 5000) Z (js O Z (jr ?_))))))
 refine ⟨.inl Z, _, am, _, Z, ?_⟩
 first | rfl | skip
def bW (s : Sm) : Int := if bO s = true then bm s.kind else -1

theorem bV {t : Tm} (h : t.zero = true) : t.term = true := by
 simp only [Tm.zero, bP, decide_eq_true_eq] at h
 obtain ⟨h1, h2⟩ := h
 have h3 : t.xs = [] := List.eq_nil_of_length_eq_zero (by omega)
 simp [Tm.term, Tm.ok, num, h1, h3]
theorem ie {ts : List Tm} (h : decide ((ts.length : Int) = 0) = true) : de ts 6 = true := by
 have h3 : ts = [] := List.eq_nil_of_length_eq_zero (by have := bC h; omega)
 subst h3; rfl
theorem ic {ts : List Tm} : decide ((0 : Int) < ts.length) = !decide ((ts.length : Int) = 0) := by
 by_cases h : (ts.length : Int) = 0
 simp [h]
 have : (0 : Int) < ts.length := by omega
 simp only [h, this, decide_true, decide_false, Bool.not_false]
def pF (n8 st it tf su sz ix iz k8 fp na v3 v0 k5 e3 e0 : Bool) : Bool :=
  bif (bif (bif (bif !n8 then true else !st) then true else !it) then true else !tf) then false
  else bif (bif (bif (bif !su then !sz else false) then true else (bif !ix then !iz else false)) then true else (bif !k8 then fp else false)) then false
  else bif (bif (bif na then !v3 else false) then true else (bif !na then !v0 else false)) then false
  else bif k5 then e3 else e0
theorem kb0 : ∀ st it tf sz iz f0 v3 v0 e3 e0 : Bool, (sz = true → st = true) → (iz = true → it = true) → (f0 = true → tf = true) → pF true st it tf false sz false iz false (!f0) false v3 v0 false e3 e0 = (bif (bif (bif (bif v0 then e0 else false) then sz else false) then iz else false) then f0 else false) := by decide
theorem Bb (s : Sm) (hk : decide (s.kind = 0) = true) : bO s = (bif (bif (bif (bif decide (s.var = 0) then decide (s.event = 0) else false) then s.sum.zero else false) then s.index.zero else false) then decide ((s.facts.length : Int) = 0) else false) := by
 rw [← kb0 s.sum.term s.index.term (de s.facts 6) s.sum.zero s.index.zero (decide ((s.facts.length : Int) = 0)) (j0 0 3 s.var) (decide (s.var = 0)) (j0 0 3 s.event) (decide (s.event = 0)) bV bV ie, ← ic]
 cases s with
 | mk kind var event sum index facts =>
  have hk := bC hk
  simp only at hk
  subst hk
  rfl
theorem kb1 : ∀ st it tf sz iz f0 v3 v0 e3 e0 : Bool, (sz = true → st = true) → (iz = true → it = true) → (f0 = true → tf = true) → pF true st it tf false sz false iz false (!f0) false v3 v0 false e3 e0 = (bif (bif (bif (bif v0 then e0 else false) then sz else false) then iz else false) then f0 else false) := by decide
theorem Ba (s : Sm) (hk : decide (s.kind = 1) = true) : bO s = (bif (bif (bif (bif decide (s.var = 0) then decide (s.event = 0) else false) then s.sum.zero else false) then s.index.zero else false) then decide ((s.facts.length : Int) = 0) else false) := by
 rw [← kb1 s.sum.term s.index.term (de s.facts 6) s.sum.zero s.index.zero (decide ((s.facts.length : Int) = 0)) (j0 0 3 s.var) (decide (s.var = 0)) (j0 0 3 s.event) (decide (s.event = 0)) bV bV ie, ← ic]
 cases s with
 | mk kind var event sum index facts =>
  have hk := bC hk
  simp only at hk
  subst hk
  rfl
theorem kb2 : ∀ st it tf sz iz f0 v3 v0 e3 e0 : Bool, (sz = true → st = true) → (iz = true → it = true) → (f0 = true → tf = true) → pF true st it tf true sz false iz false (!f0) true v3 v0 false e3 e0 = (bif (bif (bif (bif v3 then e0 else false) then st else false) then iz else false) then f0 else false) := by decide
theorem A9 (s : Sm) (hk : decide (s.kind = 2) = true) : bO s = (bif (bif (bif (bif j0 0 3 s.var then decide (s.event = 0) else false) then s.sum.term else false) then s.index.zero else false) then decide ((s.facts.length : Int) = 0) else false) := by
 rw [← kb2 s.sum.term s.index.term (de s.facts 6) s.sum.zero s.index.zero (decide ((s.facts.length : Int) = 0)) (j0 0 3 s.var) (decide (s.var = 0)) (j0 0 3 s.event) (decide (s.event = 0)) bV bV ie, ← ic]
 cases s with
 | mk kind var event sum index facts =>
  have hk := bC hk
  simp only at hk
  subst hk
  rfl
theorem kb3 : ∀ st it tf sz iz f0 v3 v0 e3 e0 : Bool, (sz = true → st = true) → (iz = true → it = true) → (f0 = true → tf = true) → pF true st it tf false sz true iz false (!f0) true v3 v0 false e3 e0 = (bif (bif (bif (bif v3 then e0 else false) then sz else false) then it else false) then f0 else false) := by decide
theorem A8 (s : Sm) (hk : decide (s.kind = 3) = true) : bO s = (bif (bif (bif (bif j0 0 3 s.var then decide (s.event = 0) else false) then s.sum.zero else false) then s.index.term else false) then decide ((s.facts.length : Int) = 0) else false) := by
 rw [← kb3 s.sum.term s.index.term (de s.facts 6) s.sum.zero s.index.zero (decide ((s.facts.length : Int) = 0)) (j0 0 3 s.var) (decide (s.var = 0)) (j0 0 3 s.event) (decide (s.event = 0)) bV bV ie, ← ic]
 cases s with
 | mk kind var event sum index facts =>
  have hk := bC hk
  simp only at hk
  subst hk
  rfl
theorem kb4 : ∀ st it tf sz iz f0 v3 v0 e3 e0 : Bool, (sz = true → st = true) → (iz = true → it = true) → (f0 = true → tf = true) → pF true st it tf true sz true iz false (!f0) false v3 v0 false e3 e0 = (bif (bif (bif (bif v0 then e0 else false) then st else false) then it else false) then f0 else false) := by decide
theorem A7 (s : Sm) (hk : decide (s.kind = 4) = true) : bO s = (bif (bif (bif (bif decide (s.var = 0) then decide (s.event = 0) else false) then s.sum.term else false) then s.index.term else false) then decide ((s.facts.length : Int) = 0) else false) := by
 rw [← kb4 s.sum.term s.index.term (de s.facts 6) s.sum.zero s.index.zero (decide ((s.facts.length : Int) = 0)) (j0 0 3 s.var) (decide (s.var = 0)) (j0 0 3 s.event) (decide (s.event = 0)) bV bV ie, ← ic]
 cases s with
 | mk kind var event sum index facts =>
  have hk := bC hk
  simp only at hk
  subst hk
  rfl
theorem kb5 : ∀ st it tf sz iz f0 v3 v0 e3 e0 : Bool, (sz = true → st = true) → (iz = true → it = true) → (f0 = true → tf = true) → pF true st it tf false sz false iz false (!f0) false v3 v0 true e3 e0 = (bif (bif (bif (bif v0 then e3 else false) then sz else false) then iz else false) then f0 else false) := by decide
theorem A6 (s : Sm) (hk : decide (s.kind = 5) = true) : bO s = (bif (bif (bif (bif decide (s.var = 0) then j0 0 3 s.event else false) then s.sum.zero else false) then s.index.zero else false) then decide ((s.facts.length : Int) = 0) else false) := by
 rw [← kb5 s.sum.term s.index.term (de s.facts 6) s.sum.zero s.index.zero (decide ((s.facts.length : Int) = 0)) (j0 0 3 s.var) (decide (s.var = 0)) (j0 0 3 s.event) (decide (s.event = 0)) bV bV ie, ← ic]
 cases s with
 | mk kind var event sum index facts =>
  have hk := bC hk
  simp only at hk
  subst hk
  rfl
theorem kb6 : ∀ st it tf sz iz f0 v3 v0 e3 e0 : Bool, (sz = true → st = true) → (iz = true → it = true) → (f0 = true → tf = true) → pF true st it tf true sz false iz false (!f0) false v3 v0 false e3 e0 = (bif (bif (bif (bif v0 then e0 else false) then st else false) then iz else false) then f0 else false) := by decide
theorem A5 (s : Sm) (hk : decide (s.kind = 6) = true) : bO s = (bif (bif (bif (bif decide (s.var = 0) then decide (s.event = 0) else false) then s.sum.term else false) then s.index.zero else false) then decide ((s.facts.length : Int) = 0) else false) := by
 rw [← kb6 s.sum.term s.index.term (de s.facts 6) s.sum.zero s.index.zero (decide ((s.facts.length : Int) = 0)) (j0 0 3 s.var) (decide (s.var = 0)) (j0 0 3 s.event) (decide (s.event = 0)) bV bV ie, ← ic]
 cases s with
 | mk kind var event sum index facts =>
  have hk := bC hk
  simp only at hk
  subst hk
  rfl
theorem kb7 : ∀ st it tf sz iz f0 v3 v0 e3 e0 : Bool, (sz = true → st = true) → (iz = true → it = true) → (f0 = true → tf = true) → pF true st it tf true sz false iz false (!f0) false v3 v0 false e3 e0 = (bif (bif (bif (bif v0 then e0 else false) then st else false) then iz else false) then f0 else false) := by decide
theorem A4 (s : Sm) (hk : decide (s.kind = 7) = true) : bO s = (bif (bif (bif (bif decide (s.var = 0) then decide (s.event = 0) else false) then s.sum.term else false) then s.index.zero else false) then decide ((s.facts.length : Int) = 0) else false) := by
 rw [← kb7 s.sum.term s.index.term (de s.facts 6) s.sum.zero s.index.zero (decide ((s.facts.length : Int) = 0)) (j0 0 3 s.var) (decide (s.var = 0)) (j0 0 3 s.event) (decide (s.event = 0)) bV bV ie, ← ic]
 cases s with
 | mk kind var event sum index facts =>
  have hk := bC hk
  simp only at hk
  subst hk
  rfl
theorem kb8 : ∀ st it tf sz iz f0 v3 v0 e3 e0 : Bool, (sz = true → st = true) → (iz = true → it = true) → (f0 = true → tf = true) → pF true st it tf true sz false iz true (!f0) false v3 v0 false e3 e0 = (bif (bif (bif (bif v0 then e0 else false) then st else false) then iz else false) then tf else false) := by decide
theorem A3 (s : Sm) (hk : decide (s.kind = 8) = true) : bO s = (bif (bif (bif (bif decide (s.var = 0) then decide (s.event = 0) else false) then s.sum.term else false) then s.index.zero else false) then de s.facts 6 else false) := by
 rw [← kb8 s.sum.term s.index.term (de s.facts 6) s.sum.zero s.index.zero (decide ((s.facts.length : Int) = 0)) (j0 0 3 s.var) (decide (s.var = 0)) (j0 0 3 s.event) (decide (s.event = 0)) bV bV ie, ← ic]
 cases s with
 | mk kind var event sum index facts =>
  have hk := bC hk
  simp only at hk
  subst hk
  rfl
theorem D8 {s : Sm} : MQ h1 h2 174 [A0 s] [] (Plain (eI (bW s))) := by
 refine aA ?_ Z
 refine jB 185 h1 h2 Tryz.func174 Z Z Z fun O hF => ?_
 refine ah (jx O Z (js O Z (jn (ag (gL O [_,_,_,_,_,_,_,_,_,_,_,_,_,_,_,_,_,_,_,_,_] [pn [] 0 2, pn [0] 0 2, pn [0,1] 0 2, pn [] 0 2, pn [3] 0 2, pn [3,4] 0 2, pn [] 0 0, pn [6] 0 0, pe [6,7] 0, pn [] 0 1, pn [9] 0 1, pe (rg 6 5) 1, pn [] 0 2, pn [12] 0 2, pn [12,13] 0 2, pn [12,13,14] 0 2, pn ([0,1,2]++rg 6 6) 2 2, pn (rg 0 12++[16]) 2 2, pn (rg 0 12++[16,17]) 2 2, pn (rg 0 12++[16,17,18]) 2 2, pn (rg 0 20) 2 2] [8,11] [_,_,_] (ai (kc O Z (kc O Z (V O Z))) (ai (kc O Z (kc O Z (V O Z))) (ai (kc O Z (kc O Z (V O Z))) (ai (kc O Z (kc O Z (V O Z))) (ai (kc O Z (kc O Z (V O Z))) (ai (kc O Z (kc O Z (V O Z))) (kc O Z (kc O Z (ai (bw O (B0 := 18000) Z Z Z Z (Bh h1 h2) (aa Z) Z Z Z Z Z) (ai (kc O Z (V O Z)) (ai (kc O Z (V O Z)) (ai (bw O (B0 := 21000) Z Z Z Z (Bh h1 h2) (aa Z) Z Z Z Z Z) (ai (kc O Z (kc O Z (V O Z))) (ai (kc O Z (kc O Z (V O Z))) (ai (ai (dG O Z Z Z Z Z Z Z Z) (ai (dG O Z Z Z Z Z Z Z Z) (dG O Z Z Z Z Z Z Z Z))) (ai (kc O Z (kc O Z (V O Z))) (kc O Z (kc O Z (kc O Z (kc O Z (kc O Z trivial))))))))))))))))))))) ?_)))))
 refine jw [7,6,5,4,3,2,1,0] Z (b9 ?_)
 refine ah (js O Z (jn (ag (ah (j2 O Z Z (jn (ao (ah (j2 O Z Z (jn (ae O Z Z (fun hc27 => ?_) (fun hc27 => ?_))))))))))))
 refine ah (j2 O Z Z (jf [30,28,26,25,8,7,6,5,4,3,2,1,0] Z (az 1 Z Z Z (fun hx => ab hx Z Z Z (V O Z) Z Z ( AN.nil)) Z Z (ac (aC O Z Z Z Z Z) Z Z Z (js O Z (jf [33,28,26,25,8,7,6,5,4,3,2,1,0] Z (az 1 Z Z Z (fun hx => ab hx Z Z Z (V O Z) Z Z ( AN.nil)) Z Z (ac (aC O Z Z Z Z Z) Z Z Z (js O Z (jf [36,28,26,25,8,7,6,5,4,3,2,1,0] Z (az 1 Z Z Z (fun hx => ab hx Z Z Z (V O Z) Z Z ( AN.nil)) Z Z (ac (aC O Z Z Z Z Z) Z Z Z (js O Z (jf [39,28,26,25,8,7,6,5,4,3,2,1,0] Z (az 1 Z Z Z (fun hx => ab hx Z Z Z (V O Z) Z Z ( AN.nil)) Z Z (ac (aC O Z Z Z Z Z) Z Z Z (jf [41,28,26,25,8,7,6,5,4,3,2,1,0] Z (jn (ae O Z Z (fun hc41 => ?_) (fun hc41 => ?_))))))))))))))))))))
 refine ak (js O Z (jn (ah (j2 O Z Z (jf [2,28,26,25,7,6,5,4,3,1,0] Z (jr ?_))))))
 refine ⟨.inl Z, _, am, _, Z, ?_⟩
 rw [bW, Bb s hc27, hc41]
 simp [bm, bC hc27]
 refine aj (ah (j2 O Z Z (jf [2,28,26,25,7,6,5,4,3,1,0] Z (jr ?_))))
 refine ⟨.inl Z, _, am, _, Z, ?_⟩
 rw [bW, Bb s hc27, hc41]
 simp
 refine ah (j2 O Z Z (jf [42,28,26,25,8,7,6,5,4,3,2,1,0] Z (jn (ae O Z Z (fun hc42 => ?_) (fun hc42 => ?_)))))
 refine ah (j2 O Z Z (jf [45,28,26,25,8,7,6,5,4,3,2,1,0] Z (az 1 Z Z Z (fun hx => ab hx Z Z Z (V O Z) Z Z ( AN.nil)) Z Z (ac (aC O Z Z Z Z Z) Z Z Z (js O Z (jf [48,28,26,25,8,7,6,5,4,3,2,1,0] Z (az 1 Z Z Z (fun hx => ab hx Z Z Z (V O Z) Z Z ( AN.nil)) Z Z (ac (aC O Z Z Z Z Z) Z Z Z (js O Z (jf [51,28,26,25,8,7,6,5,4,3,2,1,0] Z (az 1 Z Z Z (fun hx => ab hx Z Z Z (V O Z) Z Z ( AN.nil)) Z Z (ac (aC O Z Z Z Z Z) Z Z Z (js O Z (jf [54,28,26,25,8,7,6,5,4,3,2,1,0] Z (az 1 Z Z Z (fun hx => ab hx Z Z Z (V O Z) Z Z ( AN.nil)) Z Z (ac (aC O Z Z Z Z Z) Z Z Z (jf [56,28,26,25,8,7,6,5,4,3,2,1,0] Z (jn (ae O Z Z (fun hc56 => ?_) (fun hc56 => ?_))))))))))))))))))))
 refine ak (js O Z (jn (ah (j2 O Z Z (jf [2,28,26,25,7,6,5,4,3,1,0] Z (jr ?_))))))
 refine ⟨.inl Z, _, am, _, Z, ?_⟩
 rw [bW, Ba s hc42, hc56]
 simp [bm, bC hc42]
 refine aj (ah (j2 O Z Z (jf [2,28,26,25,7,6,5,4,3,1,0] Z (jr ?_))))
 refine ⟨.inl Z, _, am, _, Z, ?_⟩
 rw [bW, Ba s hc42, hc56]
 simp
 refine ah (j2 O Z Z (jf [57,28,26,25,8,7,6,5,4,3,2,1,0] Z (jn (ae O Z Z (fun hc57 => ?_) (fun hc57 => ?_)))))
 refine ah (j2 O Z Z (jf [60,28,26,25,8,7,6,5,4,3,2,1,0] Z (ap O Z Z Z Z (Bj h1 h2) (aa Z) Z Z Z Z Z (B0 := 62000) Z (js O Z (jf [62,28,26,25,8,7,6,5,4,3,2,1,0] Z (az 1 Z Z Z (fun hx => ab hx Z Z Z (V O Z) Z Z ( AN.nil)) Z Z (ac (aC O Z Z Z Z Z) Z Z Z (js O Z (jf [65,28,26,25,8,7,6,5,4,3,2,1,0] Z (az 3 Z Z Z (fun hx => ab hx Z Z Z (V O Z) Z Z ( ab hx Z Z Z (V O Z) Z Z ( bv O hx Z Z Z Z (qM h1 h2) (aa Z) Z Z Z Z Z Z Z (B0 := 69000) Z ( AN.nil)))) Z Z (ac (aC O Z Z Z Z Z) Z Z Z (js O Z (jf [70,28,26,25,8,7,6,5,4,3,2,1,0] Z (az 1 Z Z Z (fun hx => ab hx Z Z Z (V O Z) Z Z ( AN.nil)) Z Z (ac (aC O Z Z Z Z Z) Z Z Z (js O Z (jf [73,28,26,25,8,7,6,5,4,3,2,1,0] Z (az 1 Z Z Z (fun hx => ab hx Z Z Z (V O Z) Z Z ( AN.nil)) Z Z (ac (aC O Z Z Z Z Z) Z Z Z (jf [75,28,26,25,8,7,6,5,4,3,2,1,0] Z (jn (ae O Z Z (fun hc75 => ?_) (fun hc75 => ?_)))))))))))))))))))))))
 refine ak (js O Z (jn (ah (j2 O Z Z (jf [2,28,26,25,7,6,5,4,3,1,0] Z (jr ?_))))))
 refine ⟨.inl Z, _, am, _, Z, ?_⟩
 rw [bW, A9 s hc57, hc75]
 simp [bm, bC hc57]
 refine aj (ah (j2 O Z Z (jf [2,28,26,25,7,6,5,4,3,1,0] Z (jr ?_))))
 refine ⟨.inl Z, _, am, _, Z, ?_⟩
 rw [bW, A9 s hc57, hc75]
 simp
 refine ah (j2 O Z Z (jf [76,28,26,25,8,7,6,5,4,3,2,1,0] Z (jn (ae O Z Z (fun hc76 => ?_) (fun hc76 => ?_)))))
 refine ah (j2 O Z Z (jf [79,28,26,25,8,7,6,5,4,3,2,1,0] Z (ap O Z Z Z Z (Bj h1 h2) (aa Z) Z Z Z Z Z (B0 := 81000) Z (js O Z (jf [81,28,26,25,8,7,6,5,4,3,2,1,0] Z (az 1 Z Z Z (fun hx => ab hx Z Z Z (V O Z) Z Z ( AN.nil)) Z Z (ac (aC O Z Z Z Z Z) Z Z Z (js O Z (jf [84,28,26,25,8,7,6,5,4,3,2,1,0] Z (az 1 Z Z Z (fun hx => ab hx Z Z Z (V O Z) Z Z ( AN.nil)) Z Z (ac (aC O Z Z Z Z Z) Z Z Z (js O Z (jf [87,28,26,25,8,7,6,5,4,3,2,1,0] Z (az 3 Z Z Z (fun hx => ab hx Z Z Z (V O Z) Z Z ( ab hx Z Z Z (V O Z) Z Z ( bv O hx Z Z Z Z (qM h1 h2) (aa Z) Z Z Z Z Z Z Z (B0 := 91000) Z ( AN.nil)))) Z Z (ac (aC O Z Z Z Z Z) Z Z Z (js O Z (jf [92,28,26,25,8,7,6,5,4,3,2,1,0] Z (az 1 Z Z Z (fun hx => ab hx Z Z Z (V O Z) Z Z ( AN.nil)) Z Z (ac (aC O Z Z Z Z Z) Z Z Z (jf [94,28,26,25,8,7,6,5,4,3,2,1,0] Z (jn (ae O Z Z (fun hc94 => ?_) (fun hc94 => ?_)))))))))))))))))))))))
 refine ak (js O Z (jn (ah (j2 O Z Z (jf [2,28,26,25,7,6,5,4,3,1,0] Z (jr ?_))))))
 refine ⟨.inl Z, _, am, _, Z, ?_⟩
 rw [bW, A8 s hc76, hc94]
 simp [bm, bC hc76]
 refine aj (ah (j2 O Z Z (jf [2,28,26,25,7,6,5,4,3,1,0] Z (jr ?_))))
 refine ⟨.inl Z, _, am, _, Z, ?_⟩
 rw [bW, A8 s hc76, hc94]
 simp
 refine ah (j2 O Z Z (jf [95,28,26,25,8,7,6,5,4,3,2,1,0] Z (jn (ae O Z Z (fun hc95 => ?_) (fun hc95 => ?_)))))
 refine ah (j2 O Z Z (jf [98,28,26,25,8,7,6,5,4,3,2,1,0] Z (az 1 Z Z Z (fun hx => ab hx Z Z Z (V O Z) Z Z ( AN.nil)) Z Z (ac (aC O Z Z Z Z Z) Z Z Z (js O Z (jf [101,28,26,25,8,7,6,5,4,3,2,1,0] Z (az 3 Z Z Z (fun hx => ab hx Z Z Z (V O Z) Z Z ( ab hx Z Z Z (V O Z) Z Z ( bv O hx Z Z Z Z (qM h1 h2) (aa Z) Z Z Z Z Z Z Z (B0 := 105000) Z ( AN.nil)))) Z Z (ac (aC O Z Z Z Z Z) Z Z Z (js O Z (jf [106,28,26,25,8,7,6,5,4,3,2,1,0] Z (az 3 Z Z Z (fun hx => ab hx Z Z Z (V O Z) Z Z ( ab hx Z Z Z (V O Z) Z Z ( bv O hx Z Z Z Z (qM h1 h2) (aa Z) Z Z Z Z Z Z Z (B0 := 110000) Z ( AN.nil)))) Z Z (ac (aC O Z Z Z Z Z) Z Z Z (js O Z (jf [111,28,26,25,8,7,6,5,4,3,2,1,0] Z (az 1 Z Z Z (fun hx => ab hx Z Z Z (V O Z) Z Z ( AN.nil)) Z Z (ac (aC O Z Z Z Z Z) Z Z Z (jf [113,28,26,25,8,7,6,5,4,3,2,1,0] Z (jn (ae O Z Z (fun hc113 => ?_) (fun hc113 => ?_))))))))))))))))))))
 refine ak (js O Z (jn (ah (j2 O Z Z (jf [2,28,26,25,7,6,5,4,3,1,0] Z (jr ?_))))))
 refine ⟨.inl Z, _, am, _, Z, ?_⟩
 rw [bW, A7 s hc95, hc113]
 simp [bm, bC hc95]
 refine aj (ah (j2 O Z Z (jf [2,28,26,25,7,6,5,4,3,1,0] Z (jr ?_))))
 refine ⟨.inl Z, _, am, _, Z, ?_⟩
 rw [bW, A7 s hc95, hc113]
 simp
 refine ah (j2 O Z Z (jf [114,28,26,25,8,7,6,5,4,3,2,1,0] Z (jn (ae O Z Z (fun hc114 => ?_) (fun hc114 => ?_)))))
 refine ah (j2 O Z Z (jf [117,28,26,25,8,7,6,5,4,3,2,1,0] Z (az 3 Z Z Z (fun hx => ab hx Z Z Z (V O Z) Z Z ( ab hx Z Z Z (V O Z) Z Z ( bv O hx Z Z Z Z (D7 h1 h2) (aa Z) Z Z Z Z Z Z Z (B0 := 121000) Z ( AN.nil)))) Z Z (ac (aC O Z Z Z Z Z) Z Z Z (js O Z (jf [122,28,26,25,8,7,6,5,4,3,2,1,0] Z (az 1 Z Z Z (fun hx => ab hx Z Z Z (V O Z) Z Z ( AN.nil)) Z Z (ac (aC O Z Z Z Z Z) Z Z Z (js O Z (jf [125,28,26,25,8,7,6,5,4,3,2,1,0] Z (az 1 Z Z Z (fun hx => ab hx Z Z Z (V O Z) Z Z ( AN.nil)) Z Z (ac (aC O Z Z Z Z Z) Z Z Z (js O Z (jf [128,28,26,25,8,7,6,5,4,3,2,1,0] Z (az 1 Z Z Z (fun hx => ab hx Z Z Z (V O Z) Z Z ( AN.nil)) Z Z (ac (aC O Z Z Z Z Z) Z Z Z (jf [130,28,26,25,8,7,6,5,4,3,2,1,0] Z (jn (ae O Z Z (fun hc130 => ?_) (fun hc130 => ?_))))))))))))))))))))
 refine ak (js O Z (jn (ah (j2 O Z Z (jf [2,28,26,25,7,6,5,4,3,1,0] Z (jr ?_))))))
 refine ⟨.inl Z, _, am, _, Z, ?_⟩
 rw [bW, A6 s hc114, hc130]
 simp [bm, bC hc114]
 refine aj (ah (j2 O Z Z (jf [2,28,26,25,7,6,5,4,3,1,0] Z (jr ?_))))
 refine ⟨.inl Z, _, am, _, Z, ?_⟩
 rw [bW, A6 s hc114, hc130]
 simp
 refine ah (j2 O Z Z (jf [131,28,26,25,8,7,6,5,4,3,2,1,0] Z (jn (ae O Z Z (fun hc131 => ?_) (fun hc131 => ?_)))))
 refine ah (j2 O Z Z (jf [134,28,26,25,8,7,6,5,4,3,2,1,0] Z (az 1 Z Z Z (fun hx => ab hx Z Z Z (V O Z) Z Z ( AN.nil)) Z Z (ac (aC O Z Z Z Z Z) Z Z Z (js O Z (jf [137,28,26,25,8,7,6,5,4,3,2,1,0] Z (az 3 Z Z Z (fun hx => ab hx Z Z Z (V O Z) Z Z ( ab hx Z Z Z (V O Z) Z Z ( bv O hx Z Z Z Z (qM h1 h2) (aa Z) Z Z Z Z Z Z Z (B0 := 141000) Z ( AN.nil)))) Z Z (ac (aC O Z Z Z Z Z) Z Z Z (js O Z (jf [142,28,26,25,8,7,6,5,4,3,2,1,0] Z (az 1 Z Z Z (fun hx => ab hx Z Z Z (V O Z) Z Z ( AN.nil)) Z Z (ac (aC O Z Z Z Z Z) Z Z Z (js O Z (jf [145,28,26,25,8,7,6,5,4,3,2,1,0] Z (az 1 Z Z Z (fun hx => ab hx Z Z Z (V O Z) Z Z ( AN.nil)) Z Z (ac (aC O Z Z Z Z Z) Z Z Z (jf [147,28,26,25,8,7,6,5,4,3,2,1,0] Z (jn (ae O Z Z (fun hc147 => ?_) (fun hc147 => ?_))))))))))))))))))))
 refine ak (js O Z (jn (ah (j2 O Z Z (jf [2,28,26,25,7,6,5,4,3,1,0] Z (jr ?_))))))
 refine ⟨.inl Z, _, am, _, Z, ?_⟩
 rw [bW, A5 s hc131, hc147]
 simp [bm, bC hc131]
 refine aj (ah (j2 O Z Z (jf [2,28,26,25,7,6,5,4,3,1,0] Z (jr ?_))))
 refine ⟨.inl Z, _, am, _, Z, ?_⟩
 rw [bW, A5 s hc131, hc147]
 simp
 refine ah (j2 O Z Z (jf [148,28,26,25,8,7,6,5,4,3,2,1,0] Z (jn (ae O Z Z (fun hc148 => ?_) (fun hc148 => ?_)))))
 refine ah (j2 O Z Z (jf [151,28,26,25,8,7,6,5,4,3,2,1,0] Z (az 1 Z Z Z (fun hx => ab hx Z Z Z (V O Z) Z Z ( AN.nil)) Z Z (ac (aC O Z Z Z Z Z) Z Z Z (js O Z (jf [154,28,26,25,8,7,6,5,4,3,2,1,0] Z (az 3 Z Z Z (fun hx => ab hx Z Z Z (V O Z) Z Z ( ab hx Z Z Z (V O Z) Z Z ( bv O hx Z Z Z Z (qM h1 h2) (aa Z) Z Z Z Z Z Z Z (B0 := 158000) Z ( AN.nil)))) Z Z (ac (aC O Z Z Z Z Z) Z Z Z (js O Z (jf [159,28,26,25,8,7,6,5,4,3,2,1,0] Z (az 1 Z Z Z (fun hx => ab hx Z Z Z (V O Z) Z Z ( AN.nil)) Z Z (ac (aC O Z Z Z Z Z) Z Z Z (js O Z (jf [162,28,26,25,8,7,6,5,4,3,2,1,0] Z (az 1 Z Z Z (fun hx => ab hx Z Z Z (V O Z) Z Z ( AN.nil)) Z Z (ac (aC O Z Z Z Z Z) Z Z Z (jf [164,28,26,25,8,7,6,5,4,3,2,1,0] Z (jn (ae O Z Z (fun hc164 => ?_) (fun hc164 => ?_))))))))))))))))))))
 refine ak (js O Z (jn (ah (j2 O Z Z (jf [2,28,26,25,7,6,5,4,3,1,0] Z (jr ?_))))))
 refine ⟨.inl Z, _, am, _, Z, ?_⟩
 rw [bW, A4 s hc148, hc164]
 simp [bm, bC hc148]
 refine aj (ah (j2 O Z Z (jf [2,28,26,25,7,6,5,4,3,1,0] Z (jr ?_))))
 refine ⟨.inl Z, _, am, _, Z, ?_⟩
 rw [bW, A4 s hc148, hc164]
 simp
 refine ah (j2 O Z Z (jf [165,28,26,25,8,7,6,5,4,3,2,1,0] Z (jn (ae O Z Z (fun hc165 => ?_) (fun hc165 => ?_)))))
 refine ah (j2 O Z Z (jf [168,28,26,25,8,7,6,5,4,3,2,1,0] Z (az 1 Z Z Z (fun hx => ab hx Z Z Z (V O Z) Z Z ( AN.nil)) Z Z (ac (aC O Z Z Z Z Z) Z Z Z (js O Z (jf [171,28,26,25,8,7,6,5,4,3,2,1,0] Z (az 3 Z Z Z (fun hx => ab hx Z Z Z (V O Z) Z Z ( ab hx Z Z Z (V O Z) Z Z ( bv O hx Z Z Z Z (qM h1 h2) (aa Z) Z Z Z Z Z Z Z (B0 := 175000) Z ( AN.nil)))) Z Z (ac (aC O Z Z Z Z Z) Z Z Z (js O Z (jf [176,28,26,25,8,7,6,5,4,3,2,1,0] Z (az 1 Z Z Z (fun hx => ab hx Z Z Z (V O Z) Z Z ( AN.nil)) Z Z (ac (aC O Z Z Z Z Z) Z Z Z (js O Z (jf [179,28,26,25,8,7,6,5,4,3,2,1,0] Z (az 3 Z Z Z (fun hx => ab hx Z Z Z (V O Z) Z Z ( ab hx Z Z Z (V O Z) Z Z ( bv O hx Z Z Z Z (y8 h1 h2) (aa Z) Z Z Z Z Z Z Z (B0 := 183000) Z ( AN.nil)))) Z Z (ac (aC O Z Z Z Z Z) Z Z Z (jf [183,28,26,25,8,7,6,5,4,3,2,1,0] Z (jn (ae O Z Z (fun hc183 => ?_) (fun hc183 => ?_))))))))))))))))))))
 refine ak (js O Z (jn (ah (j2 O Z Z (jf [2,28,26,25,7,6,5,4,3,1,0] Z (jr ?_))))))
 refine ⟨.inl Z, _, am, _, Z, ?_⟩
 rw [bW, A3 s hc165, hc183]
 simp [bm, bC hc165]
 refine aj (ah (j2 O Z Z (jf [2,28,26,25,7,6,5,4,3,1,0] Z (jr ?_))))
 refine ⟨.inl Z, _, am, _, Z, ?_⟩
 rw [bW, A3 s hc165, hc183]
 simp
 refine aj (ah (j2 O Z Z (jf [2,28,26,25,7,6,5,4,3,1,0] Z (jr ?_))))
 refine ⟨.inl Z, _, am, _, Z, ?_⟩
 have hn : (decide (0 ≤ s.kind) && decide (s.kind ≤ 8)) = false := by
  have := cH hc27
  have := cH hc42
  have := cH hc57
  have := cH hc76
  have := cH hc95
  have := cH hc114
  have := cH hc131
  have := cH hc148
  have := cH hc165
  rw [← Bool.not_eq_true]; intro h; simp only [bP, decide_eq_true_eq] at h; omega
 rw [bW, bO, show uU s = true by unfold uU; rw [hn]; rfl]; rfl
inductive Tr where
  | node (s : Sm) (at_ : Int) (kids : List Tr)
mutual
def Tr.d : Tr → D
  | .node s a ks => .ptr [.int .i64 s.kind, .int .i64 s.var, .int .i64 s.event, .int .i64 s.sum.c, bj s.sum.xs, .int .i64 s.index.c, bj s.index.xs, dK s.facts, .int .i64 a, .slc 1 (Trs.d ks)] 0
def Trs.d : List Tr → List (List D)
  | [] => []
  | t :: r => [t.d] :: Trs.d r
end
theorem fM : ∀ {ts : List Tr}, (Trs.d ts).length = ts.length
 | [] => rfl
 | t :: r => by simp [Trs.d, fM]
theorem oe : ∀ {ts : List Tr} {t : Tr}, Trs.d (ts ++ [t]) = Trs.d ts ++ [[t.d]]
 | [], t => rfl
 | u :: r, t => by simp [Trs.d, oe]
def cw (f : Nat → Option (Tr × Nat)) : Nat → Nat → Option (List Tr × Nat)
  | 0, k => some ([], k)
  | q + 1, k => match f k with
    | none => none
    | some (t, k') => (cw f q k').map fun r => (t :: r.1, r.2)
def cq : Nat → List Sm → Nat → Option (Tr × Nat)
  | 0, _, _ => none
  | n + 1, body, k => if body.length ≤ k then none else if bW (body.getD k default) < 0 then none else
      (cw (cq n body) (bW (body.getD k default)).toNat (k + 1)).map fun r => (.node (body.getD k default) k r.1, r.2)
theorem da {f : Nat → Option (Tr × Nat)} {q k k' : Nat} {t : Tr} (h : f k = some (t, k')) : cw f (q + 1) k = (cw f q k').map fun r => (t :: r.1, r.2) := by rw [cw, h]
theorem dH {f : Nat → Option (Tr × Nat)} {q k : Nat} (h : f k = none) : cw f (q + 1) k = none := by rw [cw, h]
theorem rq {f : Nat → Option (Tr × Nat)} {N : Nat} (hf : ∀ k t k', f k = some (t, k') → k < k' ∧ k' ≤ N) : ∀ {q k ts k'}, cw f q k = some (ts, k') → k ≤ N → k ≤ k' ∧ k' ≤ N
 | 0, k, ts, k', h, hk => by simp [cw] at h; omega
 | q + 1, k, ts, k', h, hk => by
  unfold cw at h
  cases hx : f k with
  | none => rw [hx] at h; cases h
  | some x =>
   obtain ⟨t, k1⟩ := x
   rw [hx] at h
   simp only [Option.map_eq_some_iff] at h
   obtain ⟨⟨ts1, k2⟩, h1, h2⟩ := h
   simp only [Prod.mk.injEq] at h2
   have h3 := hf k t k1 hx
   have h4 := rq hf h1 h3.2
   omega
theorem fZ : ∀ {n body k t k'}, cq n body k = some (t, k') → k < k' ∧ k' ≤ body.length
 | 0, _, _, _, _, h => by cases h
 | n + 1, body, k, t, k', h => by
  unfold cq at h
  split at h
  cases h
  split at h
  cases h
  simp only [Option.map_eq_some_iff] at h
  obtain ⟨⟨ts1, k2⟩, h1, h2⟩ := h
  simp only [Prod.mk.injEq] at h2
  have := rq (N := body.length) (fun k t k' h => fZ h) h1 (by omega)
  omega
abbrev tP (r : Option (Tr × Nat)) : D := match r with | some (t, _) => t.d | none => .nilp
abbrev tN (r : Option (Tr × Nat)) : Int := match r with | some (_, k) => k | none => 0
abbrev tB (r : Option (Tr × Nat)) : Bool := match r with | some _ => true | none => false
abbrev yV (r : Option (Tr × Nat)) : A := .tup [.c (.d (tP r)), eI (tN r), eB (tB r)]
theorem tD {r : Option (Tr × Nat)} (h : tB r = true) : ∃ t k, r = some (t, k) := by
 cases r with
 | none => cases h
 | some x => exact ⟨x.1, x.2, Z⟩
theorem wl {r : Option (Tr × Nat)} (h : tB r = false) : r = none := by
 cases r with
 | none => rfl
 | some x => cases h
theorem wH (s : Sm) : bW s ≤ 2 := by
 unfold bW; split
 exact (cW _).2
 decide
theorem Co {n k : Nat} (hk : k ≤ body.length) (hn : body.length < n + 1 + k) (ih : ∀ k', k' ≤ body.length → body.length < n + k' → MQ h1 h2 126 [.c (.d (gj body)), eI k'] [] (Plain (yV (cq n body k')))) : MQ h1 h2 126 [.c (.d (gj body)), eI k] [] (Plain (yV (cq (n + 1) body k))) := by
 refine jB 58 h1 h2 Tryz.func126 Z Z Z fun O hF => ?_
 have hl : body.length ≤ L := by simpa [As.fact, A.fact, M.fact, D.fact, Ds.fact] using hF.1.1
 refine ah (j3 O Z Z Z (jn (ag (ah (j2 O Z Z (cu O Z (js O Z (jf [15,6,5,4,0,1] Z (jn (ae O Z Z (fun hc15 => ?_) (fun hc15 => ?_)))))))))))
 try simp only [aT] at hc15
 refine ah (j3 O Z Z Z (jr ?_))
 refine ⟨.inl Z, _, aw [] Z Z (e' := [(4, .c (.d .nilp)), (5, eI 0), (6, eB false)]) ⟨Z, Z, Z, trivial⟩ Z, _, Z, ?_, Z⟩
 rw [show cq (n + 1) body k = none from if_pos (by omega)]
 try simp only [aT] at hc15
 refine aj (ah (j2 O Z Z (lz O Z Z (js O Z (jf [19,6,5,4,0,1] Z (ap O Z Z Z Z (D8 h1 h2) (aa Z) Z Z Z Z Z (B0 := 21000) Z (js O Z (jf [7,6,5,4,0,1] Z (jn (ag (ah (j2 O Z Z (jn (ae O Z Z (fun hc22 => ?_) (fun hc22 => ?_)))))))))))))))
 try simp only [aT] at hc22
 refine ah (j3 O Z Z Z (jr ?_))
 refine ⟨.inl Z, _, aw [] Z Z (e' := [(4, .c (.d .nilp)), (5, eI 0), (6, eB false)]) ⟨Z, Z, Z, trivial⟩ Z, _, Z, ?_, Z⟩
 rw [show cq (n + 1) body k = none by unfold cq; rw [if_neg (by omega)]; exact if_pos hc22]
 try simp only [aT] at hc22
 refine aj (ah (j2 O Z Z (lz O Z Z (j3 O Z Z Z (jf [28,21,7,6,5,4,0,1] Z (jx O Z (au ?_)))))))
 refine js O Z (jf [8,21,7,6,5,4,0,1] Z (aV (js O Z (ji O Z (js O Z (jf [1,8,21,7,6,5,4,0] Z (jn (ag (ao (aq (X := Nat × Nat × List Tr) (fun x => ⟨[(0, .c (.d (gj body))), (1, eI x.2.1), (7, eI x.1), (8, .c (.pt 29 0 0))], [(29, .box [.d (.int .i64 (body.getD k default).kind), .d (.int .i64 (body.getD k default).var), .d (.int .i64 (body.getD k default).event), .d (.int .i64 (body.getD k default).sum.c), .d (bj (body.getD k default).sum.xs), .d (.int .i64 (body.getD k default).index.c), .d (bj (body.getD k default).index.xs), .d (dK (body.getD k default).facts), .d (.int .i64 k), .rs 700 0 x.2.2.length]), (700, .row false 1 (Trs.d x.2.2))]⟩) (fun x => x.2.1 ≤ body.length ∧ k < x.2.1 ∧ cw (cq n body) (bW (body.getD k default)).toNat (k + 1) = (cw (cq n body) x.1 x.2.1).map (fun r => (x.2.2 ++ r.1, r.2)) ∧ x.2.2.length + x.1 ≤ 2) (fun x => x.1) ((bW (body.getD k default)).toNat, k + 1, []) ((cd 29 700 1 false 9 Z Z Z).trans (Ent.to ⟨Z, Z, congrArg (fun z => some (eI z)) (Int.toNat_of_nonneg hc22).symm, Z, trivial⟩ Z)) ?_ (fun x hi => ?_)))))))))))
 exact ⟨(show k + 1 ≤ body.length by omega), Nat.lt_succ_self k, by simp, by have := wH (body.getD k default); show 0 + (bW (body.getD k default)).toNat ≤ 2; omega⟩
 refine ag (ah (j2 O Z Z (jn (ae O Z Z (fun hc33 => ?_) (fun hc33 => ?_)))))
 try simp only [aT] at hc33
 refine aj (ag (ao (ah (j2 O Z Z (ar O Z Z Z Z (ih x.2.1 hi.1 (by omega)) (aa Z) Z Z Z Z (B0 := 40000) Z Z (j4 O Z Z Z Z (j3 O Z Z Z (jf [11,10,9,33,32,0,1,7,8] Z (jn (ag (ah (j2 O Z Z (jf [44,10,9,33,32,0,1,7,8] Z (jn (ae O Z Z (fun hc44 => ?_) (fun hc44 => ?_))))))))))))))))
 try simp only [aT] at hc44
 refine ah (j3 O Z Z Z (jr ?_))
 refine ⟨.inl Z, _, aw [] Z Z (e' := [(4, .c (.d .nilp)), (5, eI 0), (6, eB false)]) ⟨Z, Z, Z, trivial⟩ Z, _, Z, ?_, Z⟩
 have e0 := wl hc44
 rw [Int.toNat_natCast] at hc22
 rw [show cq (n + 1) body k = none by
  unfold cq
  rw [if_neg (by omega), if_neg (by omega), hi.2.2.1]
  obtain ⟨q, hq⟩ : ∃ q, x.1 = q + 1 := ⟨x.1 - 1, by omega⟩
  rw [hq, dH e0]; rfl]
 try simp only [aT] at hc44
 refine aj (ah ?_)
 obtain ⟨t1, k1, hr⟩ := tD hc44
 obtain ⟨s1, a1, ks1⟩ := t1
 rw [hr]
 refine j4 O Z Z Z Z (j2 O Z Z (jf [50,49,45,44,10,33,32,0,1,7,8] Z (AOps.heap (bA O Z Z Z) Z (au ?_))))
 refine jf [51,49,45,44,10,33,32,0,1,7,8] Z (AOps.heap (aU (own := false) O Z Z Z Z Z Z Z Z Z Z Z Z Z Z Z Z (.row Z fM.symm) (.whole Z Z (.inr ⟨Z, Z⟩)) (by simp) Z (by rw [fM]; show x.2.2.length + 1 ≤ L; omega) (by rw [fM]; show (x.2.2.length + 1) * 8 ≤ _; omega) Z (by rw [ce, fM])) Z (au ?_))
 refine j2 O Z Z (jf [54,52,44,10,33,32,0,1,7,8] Z (jo O Z (au ?_)))
 refine jf [44,10,33,32,0,1,7,8] Z (jn (ak (j2 O Z Z (jf [1,44,33,32,0,7,8] Z (jn (ak (js O Z (ji O Z (js O Z (jf [7,1,44,33,32,0,8] Z (jn ?_)))))))))))
 refine ⟨(x.1 - 1, k1, x.2.2 ++ [.node s1 a1 ks1]), ((aw [29,52] (e' := [(0, _), (1, _), (7, _), (8, _)]) Z Z ⟨Z, Z, Z, Z, trivial⟩ Z).trans (Ent.sub 52 700 Z Z Z)).trans (Ent.to ⟨Z, Z, ?_, Z, trivial⟩ ?_), ⟨(fZ hr).2, by have := (fZ hr).1; show k < k1; omega, ?_, ?_⟩, ?_⟩
 exact congrArg (fun z => some (eI z)) (by show (x.1 : Int) - 1 = (x.1 - 1 : Nat); omega)
 rw [oe, ce]; rfl
 rw [hi.2.2.1]
 obtain ⟨q, hq⟩ : ∃ q, x.1 = q + 1 := ⟨x.1 - 1, by omega⟩
 rw [hq, da hr]
 simp [Option.map_map, Function.comp_def]
 show (x.2.2 ++ [_]).length + (x.1 - 1) ≤ 2; simp; omega
 show x.1 - 1 < x.1; omega
 try simp only [aT] at hc33
 refine aO (ah (j4 O Z Z Z Z (js O Z (jf [6,5,4,33,32,0,1,7,8] Z (jr ?_)))))
 refine ⟨.inl Z, _, ((Ent.to (e' := [(4, _), (5, _), (6, _)]) ⟨Z, Z, Z, trivial⟩ Z).trans (Ent.freeze (e' := [(4, _), (5, _), (6, _)]) 700 Z (.cons Z (.keep Z) (.cons Z (.keep Z) (.cons Z (.keep Z) .nil))) (.cons Z (.box (.cons (.keep Z) (.cons (.keep Z) (.cons (.keep Z) (.cons (.keep Z) (.cons (.keep Z) (.cons (.keep Z) (.cons (.keep Z) (.cons (.keep Z) (.cons (.keep Z) (.cons (.row Z fM.symm) .nil))))))))))) (.skip .nil)))).trans (Ent.freeze (e' := [(4, _), (5, _), (6, _)]) 29 Z (.cons Z (.c (.box (cs := [.int .i64 (body.getD k default).kind, .int .i64 (body.getD k default).var, .int .i64 (body.getD k default).event, .int .i64 (body.getD k default).sum.c, bj (body.getD k default).sum.xs, .int .i64 (body.getD k default).index.c, bj (body.getD k default).index.xs, dK (body.getD k default).facts, .int .i64 k, .slc 1 (Trs.d x.2.2)]) Z (aE Z))) (.cons Z (.keep Z) (.cons Z (.keep Z) .nil))) (.skip .nil)), _, Z, ?_, Z⟩
 have hx : x.1 = 0 := by omega
 rw [Int.toNat_natCast] at hc22
 rw [show cq (n + 1) body k = some (.node (body.getD k default) k x.2.2, x.2.1) by
  unfold cq
  rw [if_neg (by omega), if_neg (by omega), hi.2.2.1, hx]; simp [cw]]
 rfl
theorem Bl {L : Nat} (h1 : 4096 ≤ L) (h2 : L ≤ 1073741824) {body : List Sm} : ∀ {n k : Nat}, k ≤ body.length → body.length < n + k → MC Tryz.prog L 126 [.c (.d (gj body)), eI k] [] (Plain (yV (cq n body k)))
 | 0, k, hk, hn => by omega
 | n + 1, k, hk, hn => Co h1 h2 hk hn (fun k' hk' hn' => Bl h1 h2 hk' hn')
def AM (body : List Sm) : Option (Tr × Nat) := cq (body.length + 1) body 0
def w6 (body : List Sm) : D := if (30 : Int) < body.length then .nilp else tP (AM body)
def uO (body : List Sm) : Bool := if (30 : Int) < body.length then false else (tB (AM body) && decide (tN (AM body) = body.length))
def gI (p : Pm) : Bool := uO p.body && (de p.pre 6 && de p.post 6)

theorem Bn : MQ h1 h2 85 [.c (.d (gj body))] [] (Plain (.tup [.c (.d (w6 body)), eB (uO body)])) := by
 refine jB 24 h1 h2 Tryz.func85 Z Z Z fun O hF => ?_
 have hl : body.length ≤ L := by simpa [As.fact, A.fact, M.fact, D.fact, Ds.fact] using hF.1.1
 refine ah (j2 O Z Z (jn (ag (ah (js O Z (cu O Z (js O Z (jf [9,3,2,0] Z (jn (ae O Z Z (fun hc9 => ?_) (fun hc9 => ?_)))))))))))
 try simp only [aT] at hc9
 refine ah (j2 O Z Z (jr ?_))
 refine ⟨.inl Z, _, am, _, Z, ?_, Z⟩
 rw [w6, uO, if_pos hc9, if_pos hc9]
 try simp only [aT] at hc9
 refine aj (ah (js O Z (bp [(11, _), (3, _), (2, _), (0, _)] [] ⟨Z, Z, Z, Z, trivial⟩ Z (ar O Z Z Z Z (Bl (n := body.length + 1) (k := 0) h1 h2 (ct _) (by omega)) (aa Z) Z Z Z Z (B0 := 13000) Z Z (j4 O Z Z Z Z (j3 O Z Z Z (jf [6,5,4,3,2,0] Z (aV (j3 O Z Z Z (bp [(18, _), (16, _), (5, _), (3, _), (2, _), (0, _)] [] ⟨Z, Z, Z, Z, Z, Z, trivial⟩ Z (az 4 Z Z Z (fun hx => ab hx Z Z Z (V O Z) Z Z ( ab hx Z Z Z (V O Z) Z Z ( ab hx Z Z Z (dG O Z Z Z Z Z Z Z Z) Z Z ( ab hx Z Z Z (V O Z) Z Z ( AN.nil))))) Z Z (ac (aC O Z Z Z Z Z) Z Z Z (j2 O Z Z (jf [3,2,0] Z (jr ?_)))))))))))))))
 refine ⟨.inl Z, _, am, _, Z, ?_, Z⟩
 rw [w6, uO, if_neg (by omega), if_neg (by omega), ← Bool.cond_false_right]; rfl
theorem Ef : MQ h1 h2 124 [.c (.d (gj body))] [] (Plain (eB (uO body))) := by
 refine aA ?_ Z
 refine jB 11 h1 h2 Tryz.func124 Z Z Z fun O hF => ?_
 refine ah (js O Z (aV (js O Z (bp [(6, _), (2, _)] [] ⟨Z, Z, trivial⟩ Z (ar O Z Z Z Z (Bn h1 h2) (aa Z) Z Z Z Z (B0 := 8000) Z Z (j4 O Z Z Z Z (js O Z (jf [4,2] Z (aV (j2 O Z Z (jf [2] Z (jr ?_))))))))))))
 refine ⟨.inl Z, _, am, _, Z, ?_⟩
 first | rfl | skip
theorem Bo {p : Pm} : MQ h1 h2 82 [aPm p] [] (Plain (eB (gI p))) := by
 refine aA ?_ Z
 refine jB 16 h1 h2 Tryz.func82 Z Z Z fun O hF => ?_
 refine ah (jx O Z (js O Z (aV (j2 O Z Z (jf [4,2,1,0] Z (ap O Z Z Z Z (Ef h1 h2) (aa Z) Z Z Z Z Z (B0 := 6000) Z (js O Z (jf [6,2,1,0] Z (az 3 Z Z Z (fun hx => ab hx Z Z Z (V O Z) Z Z ( ab hx Z Z Z (V O Z) Z Z ( bv O hx Z Z Z Z (y8 h1 h2) (aa Z) Z Z Z Z Z Z Z (B0 := 10000) Z ( AN.nil)))) Z Z (ac (aC O Z Z Z Z Z) Z Z Z (js O Z (jf [11,2,1,0] Z (az 3 Z Z Z (fun hx => ab hx Z Z Z (V O Z) Z Z ( ab hx Z Z Z (V O Z) Z Z ( bv O hx Z Z Z Z (y8 h1 h2) (aa Z) Z Z Z Z Z Z Z (B0 := 15000) Z ( AN.nil)))) Z Z (ac (aC O Z Z Z Z Z) Z Z Z (js O Z (jf [2,0] Z (jr ?_)))))))))))))))))
 refine ⟨.inl Z, _, am, _, Z, ?_⟩
 rw [Bool.cond_false_right, Bool.cond_false_right, Bool.and_assoc]; rfl
structure RS where
  vars : List Int
  cells : List Int
  events : List Int
  fuel : Int
  steps : Int
  out : Int
def leaf (s : Sm) (r : RS) : Bool × RS :=
  if s.kind = 2 then (if Dn (kK s.sum r.vars) = true then (true, { r with vars := r.vars.set s.var.toNat (kK s.sum r.vars) }) else (false, { r with out := 4 }))
  else if s.kind = 3 then (if j0 0 7 (kK s.index r.vars) = true then (true, { r with vars := r.vars.set s.var.toNat (r.cells.getD (kK s.index r.vars).toNat default) }) else (false, { r with out := 2 }))
  else if s.kind = 4 then (if j0 0 7 (kK s.index r.vars) = true then (if Dn (kK s.sum r.vars) = true then (true, { r with cells := r.cells.set (kK s.index r.vars).toNat (kK s.sum r.vars) }) else (false, { r with out := 4 })) else (false, { r with out := 2 }))
  else if s.kind = 5 then (true, { r with events := r.events ++ [s.event] })
  else if s.kind = 6 then (if kK s.sum r.vars < 0 then (false, { r with out := 3 }) else (true, r))
  else (true, r)
structure RSok (r : RS) : Prop where
  vars : yo r.vars 4 = true
  cells : yo r.cells 8 = true
  lo : 0 ≤ r.steps
  hi : r.steps ≤ r.fuel
  fuel : r.fuel ≤ 2000
  events : (r.events.length : Int) ≤ r.steps
structure RSle (r r' : RS) : Prop where
  ok : RSok r'
  fuel : r'.fuel = r.fuel
  steps : r.steps ≤ r'.steps
theorem kp {s : Sm} (h : bO s = true) : s.sum.term = true ∧ s.index.term = true := by
 unfold bO uU at h
 cases h1 : s.sum.term <;> cases h2 : s.index.term <;> simp [h1, h2] at h ⊢
theorem wq {s : Sm} (h : bO s = true) (hk : xc s = true) : 0 ≤ s.var ∧ s.var ≤ 3 := by
 unfold bO AP at h
 rw [hk] at h
 cases h1 : (decide (0 ≤ s.var) && decide (s.var ≤ 3)) with
 | true => simpa using h1
 | false => rw [h1] at h; cases uU s <;> cases AB s <;> simp at h

mutual
/-- Each element is valid, and has the statements behind it that it eQ. -/
def Tr.ok : Tr → Prop
  | .node s _ ks => bO s = true ∧ (ks.length : Int) = bm s.kind ∧ Trs.ok ks
def Trs.ok : List Tr → Prop
  | [] => True
  | t :: r => t.ok ∧ Trs.ok r
end
theorem kZ {f : Nat → Option (Tr × Nat)} (hf : ∀ k t k', f k = some (t, k') → t.ok) : ∀ {q k ts k'}, cw f q k = some (ts, k') → ts.length = q ∧ Trs.ok ts
 | 0, k, ts, k', h => by simp only [cw, eD, Prod.mk.injEq] at h; rw [← h.1]; exact ⟨rfl, trivial⟩
 | q + 1, k, ts, k', h => by
  cases hx : f k with
  | none => rw [dH hx] at h; cases h
  | some x =>
   obtain ⟨t, k1⟩ := x
   rw [da hx] at h
   simp only [Option.map_eq_some_iff] at h
   obtain ⟨⟨ts1, k2⟩, h1, h2⟩ := h
   simp only [Prod.mk.injEq] at h2
   obtain ⟨h3, h4⟩ := kZ hf h1
   rw [← h2.1]
   exact ⟨by simp [h3], hf k t k1 hx, h4⟩
theorem kT : ∀ {n body k t k'}, cq n body k = some (t, k') → t.ok
 | 0, _, _, _, _, h => by cases h
 | n + 1, body, k, t, k', h => by
  unfold cq at h
  split at h
  cases h
  split at h
  cases h
  rename_i hk
  simp only [Option.map_eq_some_iff] at h
  obtain ⟨⟨ts1, k2⟩, h1, h2⟩ := h
  simp only [Prod.mk.injEq] at h2
  obtain ⟨h3, h4⟩ := kZ (fun k t k' h => kT h) h1
  rw [← h2.1]
  have hs : bO (body.getD k default) = true := by
   cases hb : bO (body.getD k default) with
   | true => rfl
   | false => unfold bW at hk; rw [hb] at hk; exact absurd (by rw [if_neg (by decide)]; decide) hk
  refine ⟨hs, ?_, h4⟩
  rw [h3]
  unfold bW
  rw [if_pos hs]
  have := (cW (body.getD k default).kind).1
  omega
theorem ra {body : List Sm} (h : uO body = true) : ∃ t, AM body = some (t, body.length) ∧ t.ok ∧ w6 body = t.d := by
 unfold uO at h
 split at h
 cases h
 rename_i h30
 simp only [bP, decide_eq_true_eq] at h
 obtain ⟨t, k, hk⟩ := tD h.1
 have h2 := h.2
 rw [hk] at h2
 simp only [Int.ofNat_inj, Int.natCast_inj] at h2
 subst h2
 exact ⟨t, hk, kT hk, by unfold w6; rw [if_neg h30, hk]⟩
def r0 (s : Sx) (f : Int) : RS := ⟨s.vars, s.cells, [], f, 0, 0⟩
structure Rs where
  v : List Int
  c : List Int
  ev : List Int
  out : Int
  st : Int
structure Cf where
  n : Nat
  ws : List Nat
  v : List Int
  c : List Int
  ev : List Int
  st : Int
theorem uz {b : List Sm} (h : iQ b = true) : 1 ≤ b.length ∧ b.length ≤ 30 ∧ b.all bO = true ∧ qI b 0 = b.length := by
 unfold iQ at h; simp only [bP, decide_eq_true_eq] at h
 exact ⟨by omega, by omega, h.2.1, h.2.2⟩

theorem jp {f g : Nat → Option (Tr × Nat)} {k0 : Nat} (h : ∀ j, k0 ≤ j → f j = g j) (hf : ∀ k t k', f k = some (t, k') → k < k') : ∀ {q k : Nat}, k0 ≤ k → cw f q k = cw g q k
 | 0, _, _ => rfl
 | q + 1, k, hk => by
  cases hx : f k with
  | none => rw [dH hx, dH (by rw [← h k hk]; exact hx)]
  | some x =>
   obtain ⟨t, k1⟩ := x
   have := hf k t k1 hx
   rw [da hx, da (by rw [← h k hk]; exact hx), jp h hf (by omega)]
theorem jO {n : Nat} {body : List Sm} {k : Nat} (h : body.length ≤ k) : cq n body k = none := by
 cases n with
 | zero => rfl
 | succ n => unfold cq; rw [if_pos h]
theorem nM : ∀ {n m : Nat} {body : List Sm} {k : Nat}, body.length < n + k → body.length < m + k → cq n body k = cq m body k
 | 0, m, body, k, h1, h2 => by rw [jO (by omega), jO (by omega)]
 | n + 1, 0, body, k, h1, h2 => by rw [jO (by omega), jO (by omega)]
 | n + 1, m + 1, body, k, h1, h2 => by
  unfold cq
  rw [jp (f := cq n body) (g := cq m body) (k0 := k + 1) (fun j hj => nM (by omega) (by omega)) (fun k t k' h => (fZ h).1) (cC _)]
def bZ (body : List Sm) (k : Nat) : Option (Tr × Nat) := cq (body.length + 1) body k
theorem lS {body : List Sm} {k : Nat} : bZ body k = if body.length ≤ k then none else if bW (body.getD k default) < 0 then none else (cw (bZ body) (bW (body.getD k default)).toNat (k + 1)).map fun r => (.node (body.getD k default) k r.1, r.2) := by
 unfold bZ
 show (if body.length ≤ k then none else if bW (body.getD k default) < 0 then none else (cw (cq body.length body) (bW (body.getD k default)).toNat (k + 1)).map fun r => (Tr.node (body.getD k default) k r.1, r.2)) = _
 rw [jp (f := cq body.length body) (g := cq (body.length + 1) body) (k0 := k + 1) (fun j hj => nM (by omega) (by omega)) (fun k t k' h => (fZ h).1) (cC _)]
theorem gW {body : List Sm} {k k' : Nat} {t : Tr} (h : bZ body k = some (t, k')) : k < k' ∧ k' ≤ body.length := fZ h
theorem ch {body : List Sm} {k k' : Nat} {s : Sm} {a : Int} {ks : List Tr} (h : bZ body k = some (.node s a ks, k')) :
    k < body.length ∧ s = body.getD k default ∧ bO s = true ∧ cw (bZ body) ks.length (k + 1) = some (ks, k') ∧ (ks.length : Int) = bm s.kind := by
 rw [lS] at h
 split at h
 cases h
 split at h
 cases h
 rename_i h1 h2
 simp only [Option.map_eq_some_iff] at h
 obtain ⟨⟨ts, k2⟩, h3, h4⟩ := h
 simp only [Prod.mk.injEq, Tr.node.injEq] at h4
 obtain ⟨⟨h5, _, h6⟩, h7⟩ := h4
 subst h6; subst h7; subst h5
 have h8 := (kZ (fun k t k' h => kT h) h3).1
 have hs : bO (body.getD k default) = true := by
  cases hb : bO (body.getD k default) with
  | true => rfl
  | false => unfold bW at h2; rw [hb] at h2; exact absurd (by rw [if_neg (by decide)]; decide) h2
 refine ⟨by omega, Z, hs, by rw [h8]; exact h3, ?_⟩
 rw [h8]
 unfold bW
 rw [if_pos hs]
 have := (cW (body.getD k default).kind).1
 omega
theorem ma {body : List Sm} {k : Nat} (hk : k < body.length) {n : Int} (hn : 0 < n) : eW (body.drop k) n = (eW (body.drop (k + 1)) (n - 1 + bm (body.getD k default).kind)).map (· + 1) := by
 rw [rB hn hk, show n + (bm (body.getD k default).kind - 1) = n - 1 + bm (body.getD k default).kind by omega]
theorem pi {body : List Sm} {f : Nat → Option (Tr × Nat)} (hf : ∀ k t k', f k = some (t, k') → k < k' ∧ ∀ n : Int, 0 ≤ n → eW (body.drop k) (n + 1) = (eW (body.drop k') n).map (· + (k' - k))) :
    ∀ {q k : Nat} {ts : List Tr} {k' : Nat}, cw f q k = some (ts, k') → k ≤ k' ∧ ∀ n : Int, 0 ≤ n → eW (body.drop k) (n + q) = (eW (body.drop k') n).map (· + (k' - k))
 | 0, k, ts, k', h => by
  simp only [cw, eD, Prod.mk.injEq] at h
  rw [← h.2]
  refine ⟨cC _, fun n hn => ?_⟩
  rw [show n + ((0 : Nat) : Int) = n by omega]
  simp
 | q + 1, k, ts, k', h => by
  cases hx : f k with
  | none => rw [dH hx] at h; cases h
  | some x =>
   obtain ⟨t, k1⟩ := x
   rw [da hx] at h
   simp only [Option.map_eq_some_iff] at h
   obtain ⟨⟨ts1, k2⟩, h1, h2⟩ := h
   simp only [Prod.mk.injEq] at h2
   obtain ⟨_, rfl⟩ := h2
   obtain ⟨h3, h4⟩ := hf k t k1 hx
   obtain ⟨h5, h6⟩ := pi hf h1
   refine ⟨by omega, fun n hn => ?_⟩
   rw [show n + ((q + 1 : Nat) : Int) = (n + q) + 1 by omega, h4 _ (by omega), h6 n hn, Option.map_map]
   exact congrArg (fun g => Option.map g _) (funext fun x => by simp; omega)
theorem l9 {body : List Sm} : ∀ {n k : Nat} {t : Tr} {k' : Nat}, cq n body k = some (t, k') → k < k' ∧ ∀ m : Int, 0 ≤ m → eW (body.drop k) (m + 1) = (eW (body.drop k') m).map (· + (k' - k))
 | 0, _, _, _, h => by cases h
 | n + 1, k, t, k', h => by
  unfold cq at h
  split at h
  cases h
  split at h
  cases h
  rename_i h1 h2
  simp only [Option.map_eq_some_iff] at h
  obtain ⟨⟨ts, k2⟩, h3, h4⟩ := h
  simp only [Prod.mk.injEq] at h4
  obtain ⟨_, rfl⟩ := h4
  obtain ⟨h5, h6⟩ := pi (body := body) (fun k t k' h => l9 h) h3
  have hs : bO (body.getD k default) = true := by
   cases hb : bO (body.getD k default) with
   | true => rfl
   | false => unfold bW at h2; rw [hb] at h2; exact absurd (by rw [if_neg (by decide)]; decide) h2
  have hkf : bW (body.getD k default) = bm (body.getD k default).kind := by unfold bW; rw [if_pos hs]
  have hb := (cW (body.getD k default).kind).1
  refine ⟨by omega, fun m hm => ?_⟩
  have h7 := h6 m hm
  rw [hkf] at h7
  rw [ma (by omega) (by omega), show m + 1 - 1 + bm (body.getD k default).kind = m + ((bm (body.getD k default).kind).toNat : Int) by omega, h7, Option.map_map]
  exact congrArg (fun g => Option.map g _) (funext fun x => by simp; omega)
theorem uu {body : List Sm} {k k' : Nat} {t : Tr} (h : bZ body k = some (t, k')) : qI body k = k' := by
 obtain ⟨h1, h2⟩ := l9 h
 have h3 := h2 0 (Int.le_refl _)
 unfold qI
 rw [show (1 : Int) = 0 + 1 from Z, h3, jc (Int.le_refl _)]
 show (k : Int) + ((0 + (k' - k) : Nat) : Int) = k'
 omega
theorem q8 {body : List Sm} : ∀ {n k : Nat} {t : Tr} {k' : Nat}, cq n body k = some (t, k') → ∀ j, k ≤ j → j < k' → bO (body.getD j default) = true
 | 0, _, _, _, h => by cases h
 | n + 1, k, t, k', h => by
  unfold cq at h
  split at h
  cases h
  split at h
  cases h
  rename_i h1 h2
  simp only [Option.map_eq_some_iff] at h
  obtain ⟨⟨ts, k2⟩, h3, h4⟩ := h
  simp only [Prod.mk.injEq] at h4
  obtain ⟨_, rfl⟩ := h4
  have hs : bO (body.getD k default) = true := by
   cases hb : bO (body.getD k default) with
   | true => rfl
   | false => unfold bW at h2; rw [hb] at h2; exact absurd (by rw [if_neg (by decide)]; decide) h2
  have key : ∀ {q k : Nat} {ts : List Tr} {k' : Nat}, cw (cq n body) q k = some (ts, k') → ∀ j, k ≤ j → j < k' → bO (body.getD j default) = true := by
   intro q
   induction q with
   | zero => intro k ts k' h j h1 h2; simp only [cw, eD, Prod.mk.injEq] at h; omega
   | succ q ih =>
    intro k ts k' h j h1 h2
    cases hx : cq n body k with
    | none => rw [dH hx] at h; cases h
    | some x =>
     obtain ⟨t, k1⟩ := x
     rw [da hx] at h
     simp only [Option.map_eq_some_iff] at h
     obtain ⟨⟨ts1, k2⟩, h3, h4⟩ := h
     simp only [Prod.mk.injEq] at h4
     obtain ⟨_, rfl⟩ := h4
     by_cases hj : j < k1
     exact q8 hx j h1 hj
     exact ih h3 j (by omega) h2
  intro j hj1 hj2
  by_cases e : j = k
  rw [e]; exact hs
  exact key h3 j (by omega) hj2
theorem oY {f : Nat → Option (Tr × Nat)} : ∀ {a b k : Nat} {ts : List Tr} {k' : Nat}, cw f (a + b) k = some (ts, k') → ∃ ts1 k1 ts2, cw f a k = some (ts1, k1) ∧ cw f b k1 = some (ts2, k')
 | 0, b, k, ts, k', h => ⟨[], k, ts, rfl, by rwa [Nat.zero_add] at h⟩
 | a + 1, b, k, ts, k', h => by
  rw [show a + 1 + b = (a + b) + 1 by omega] at h
  cases hx : f k with
  | none => rw [dH hx] at h; cases h
  | some x =>
   obtain ⟨t, k1⟩ := x
   rw [da hx] at h
   simp only [Option.map_eq_some_iff] at h
   obtain ⟨⟨ts1, k2⟩, h3, h4⟩ := h
   simp only [Prod.mk.injEq] at h4
   obtain ⟨_, rfl⟩ := h4
   obtain ⟨u1, k3, u2, h5, h6⟩ := oY h3
   exact ⟨t :: u1, k3, u2, by rw [da hx, h5]; rfl, h6⟩
theorem mu {body : List Sm} (hall : ∀ j, j < body.length → bO (body.getD j default) = true) : ∀ (d : Nat) {k q m : Nat}, body.length ≤ k + d → eW (body.drop k) q = some m → ∃ ts, cw (bZ body) q k = some (ts, k + m)
 | d, k, 0, m, hd, h => by
  rw [show ((0 : Nat) : Int) = 0 from Z, jc (Int.le_refl _)] at h
  obtain rfl := Option.some.inj h
  exact ⟨[], Z⟩
 | 0, k, q + 1, m, hd, h => by
  rw [List.drop_of_length_le (by omega), nH (by omega)] at h; cases h
 | d + 1, k, q + 1, m, hd, h => by
  by_cases hk : k < body.length
  rw [ma hk (by omega)] at h
  have hb := cW (body.getD k default).kind
  rw [show ((q + 1 : Nat) : Int) - 1 + bm (body.getD k default).kind = (((bm (body.getD k default).kind).toNat + q : Nat) : Int) by omega] at h
  simp only [Option.map_eq_some_iff] at h
  obtain ⟨m', h1, rfl⟩ := h
  obtain ⟨ts, h2⟩ := mu hall d (by omega) h1
  obtain ⟨ts1, k1, ts2, h3, h4⟩ := oY h2
  have hkf : bW (body.getD k default) = bm (body.getD k default).kind := by unfold bW; rw [if_pos (hall k hk)]
  have h5 : bZ body k = some (.node (body.getD k default) k ts1, k1) := by
   rw [lS, if_neg (by omega), if_neg (by omega), hkf, h3]; rfl
  exact ⟨.node (body.getD k default) k ts1 :: ts2, by rw [da h5, h4, show k + (m' + 1) = k + 1 + m' by omega]; rfl⟩
  rw [List.drop_of_length_le (by omega), nH (by omega)] at h; cases h
theorem De {body : List Sm} : body.all bO = true ↔ ∀ j, j < body.length → bO (body.getD j default) = true := by
 rw [List.all_eq_true]
 constructor
 intro h j hj; rw [ax hj]; exact h _ (List.getElem_mem hj)
 intro h x hx
 obtain ⟨j, hj, rfl⟩ := List.mem_iff_getElem.1 hx
 have := h j hj
 rwa [ax hj] at this
theorem xY (body : List Sm) : iQ body = uO body := by
 by_cases h30 : (30 : Int) < body.length
 unfold uO iQ
 rw [if_pos h30, decide_eq_false (show ¬ (body.length : Int) ≤ 30 by omega), Bool.and_false, Bool.false_and]
 rw [Bool.eq_iff_iff]
 constructor
 intro h
 obtain ⟨h1, h2, h3, h4⟩ := uz h
 have h5 : eW (body.drop 0) ((1 : Nat) : Int) = some body.length := by
  unfold qI at h4
  cases hx : eW (body.drop 0) ((1 : Nat) : Int) with
  | none => rw [show ((1 : Int)) = ((1 : Nat) : Int) from Z, hx] at h4; have h9 : (-1 : Int) = body.length := h4; omega
  | some n =>
   rw [show ((1 : Int)) = ((1 : Nat) : Int) from Z, hx] at h4
   have : n = body.length := by simp at h4; omega
   rw [this]
 obtain ⟨ts, h6⟩ := mu (De.1 h3) body.length (by omega) h5
 cases hx : bZ body 0 with
 | none => rw [dH hx] at h6; cases h6
 | some x =>
  obtain ⟨t, k1⟩ := x
  rw [da hx] at h6
  simp only [cw, Option.map_some, eD, Prod.mk.injEq] at h6
  unfold uO
  rw [if_neg h30, show AM body = some (t, k1) from hx]
  show (true && decide ((k1 : Int) = body.length)) = true
  rw [decide_eq_true (by omega)]; rfl
 intro h
 obtain ⟨t, h1, h2, h3⟩ := ra h
 have h4 : bZ body 0 = some (t, body.length) := h1
 have h5 := uu h4
 have h6 := (gW h4).1
 unfold iQ
 rw [decide_eq_true (show (1 : Int) ≤ body.length by omega), decide_eq_true (show (body.length : Int) ≤ 30 by omega), De.2 (fun j hj => q8 h4 j (ct _) hj), decide_eq_true h5]
 rfl
structure Nd where
  kind : Int
  fact : Int
  term : Tm
  mul : List Int
  deriving Inhabited, DecidableEq
structure Sq where
  facts : List Tm
  goal : Tm
  deriving Inhabited, DecidableEq
abbrev Nd.cells (n : Nd) : List D := [.int .i64 n.kind, .int .i64 n.fact, .int .i64 n.term.c, bj n.term.xs, bj n.mul]
abbrev Sq.cells (s : Sq) : List D := [dK s.facts, .int .i64 s.goal.c, bj s.goal.xs]
abbrev EG (n : Nd) : A := .agg (n.cells.map .d)
abbrev AZ (s : Sq) : A := .agg (s.cells.map .d)
abbrev x6 (ns : List Nd) : D := .slc 5 (ns.map Nd.cells)
abbrev vi (ns : List Nd) : A := .c (.d (x6 ns))
abbrev mo (ns : List Nd) : B := .row true 5 (ns.map Nd.cells)
abbrev mN : Int → Nd → Nd := fun k n => ⟨k, k + 1, ⟨k + 1 + 1, bb mI cv (k + 1 + 1 + 1) n.term.xs⟩, bb mI cv (k + 1 + 1 + 1 + n.term.xs.length) n.mul⟩
abbrev nN : Nd → Nat := fun n => 3 + n.term.xs.length + n.mul.length

theorem c93 {s t : Nd} : MQ h1 h2 106 [EG s, EG t] [] (Plain (eB (decide (s = t)))) := by
 refine aA ?_ Z
 refine jB 27 h1 h2 Tryz.func106 Z Z Z fun O hF => ?_
 refine ah (jx O Z (jx O Z (js O Z (jn (ag (ah (j4 O Z Z Z Z (js O Z (jn (ae O Z Z (fun hc9 => ?_) (fun hc9 => ?_)))))))))))
 try simp only [aT] at hc9
 refine ah (js O Z (jr ?_))
 refine ⟨.inl Z, _, am, _, Z, ?_⟩
 rw [decide_eq_false (fun e => hc9 (by rw [e]))]
 try simp only [aT] at hc9
 refine aj (ag (ah (j4 O Z Z Z Z (js O Z (jn (ae O Z Z (fun hc14 => ?_) (fun hc14 => ?_)))))))
 try simp only [aT] at hc14
 refine ah (js O Z (jr ?_))
 refine ⟨.inl Z, _, am, _, Z, ?_⟩
 rw [decide_eq_false (fun e => hc14 (by rw [e]))]
 try simp only [aT] at hc14
 refine aj (ag (ah (j4 O Z Z Z Z (ap O Z Z Z Z (C8 h1 h2) (aa Z) Z Z Z Z Z (B0 := 20000) Z (js O Z (jn (ae O Z Z (fun hc20 => ?_) (fun hc20 => ?_))))))))
 try simp only [aT] at hc20
 refine ah (js O Z (jr ?_))
 refine ⟨.inl Z, _, am, _, Z, ?_⟩
 rw [decide_eq_false (fun e => hc20 (by rw [e]))]
 try simp only [aT] at hc20
 refine aj (ag (ah (j4 O Z Z Z Z (ap O Z Z Z Z (EC h1 h2) (aa Z) Z Z Z Z Z (B0 := 26000) Z (js O Z (jn (ae O Z Z (fun hc26 => ?_) (fun hc26 => ?_))))))))
 try simp only [aT] at hc26
 refine ah (js O Z (jr ?_))
 refine ⟨.inl Z, _, am, _, Z, ?_⟩
 rw [decide_eq_false (fun e => hc26 (by rw [e]))]
 try simp only [aT] at hc26
 refine aj (ah (js O Z (jr ?_)))
 refine ⟨.inl Z, _, am, _, Z, ?_⟩
 have e : s = t := by cases s; cases t; simp_all
 rw [decide_eq_true e]
theorem c37 {xs ys : List Nd} : MQ h1 h2 62 [.c (.d (x6 xs)), .c (.d (x6 ys))] [] (Plain (eB (decide (xs = ys)))) := by
 refine aA ?_ Z
 refine jB 27 h1 h2 Tryz.func62 Z Z Z fun O hF => ?_
 have hl : xs.length ≤ L := by simpa [As.fact, A.fact, M.fact, D.fact, Ds.fact] using hF.1.1
 have hl2 : ys.length ≤ L := by simpa [As.fact, A.fact, M.fact, D.fact, Ds.fact] using hF.2.1.1
 refine ah (js O Z (jn (ag (ah (js O Z (cu O Z (js O Z (cu O Z (js O Z (jn (ae O Z Z (fun hc10 => ?_) (fun hc10 => ?_))))))))))))
 try simp only [aT] at hc10
 refine ah (js O Z (jr ?_))
 refine ⟨.inl Z, _, am, _, Z, ?_⟩
 rw [decide_eq_false (fun e => by subst e; simp at hc10)]
 try simp only [aT] at hc10
 refine aj (ag (ah (js O Z (jn (ao (aq (X := Nat) (fun i => ⟨[(0, .c (.d (x6 xs))), (1, .c (.d (x6 ys))), (5, eI i)], []⟩) (fun i => i ≤ xs.length ∧ ∀ j, j < i → xs[j]? = ys[j]?) (fun i => xs.length - i) 0 (Ent.env ⟨Z, Z, Z, trivial⟩) ?_ (fun i hi => ?_)))))))
 exact ⟨ct _, fun j hj => absurd hj (Nat.not_lt_zero j)⟩
 refine ag (ah (j2 O Z Z (cu O Z (js O Z (jn (ae O Z Z (fun hc14 => ?_) (fun hc14 => ?_)))))))
 try simp only [aT] at hc14
 refine aj (ag (ao (ag (gL O [_,_,_,_,_,_,_,_,_,_] [pn [] 0 0, pn [] 0 0, pn [0,1] 0 0, pn [0,1,2] 0 0, pn [] 0 0, pn [] 0 0, pn [4,5] 0 0, pn [4,5,6] 0 0, pe (rg 0 8) 0, pn (rg 0 9) 1 1] [8] [_,_] (kc O Z (kc O Z (ai (vD O Z) (kc O Z (kc O Z (kc O Z (ai (vD O Z) (kc O Z (ai (bw O (B0 := 26000) Z Z Z Z (c93 h1 h2) (aa Z) Z Z Z Z Z) (kc O Z trivial)))))))))) ?_))))
 refine ae O Z Z (fun hc26 => ?_) (fun hc26 => ?_)
 try simp only [aT] at hc26
 refine ah (js O Z (jr ?_))
 refine ⟨.inl Z, _, am, _, Z, ?_⟩
 rw [decide_eq_false (fun e => by subst e; simp at hc26)]
 try simp only [aT] at hc26
 refine aj (ak (js O Z (ji O Z (js O Z (jn ?_)))))
 refine ⟨i + 1, Ent.env ⟨Z, Z, Z, trivial⟩, ⟨by omega, fun j hj => ?_⟩, by omega⟩
 rcases Nat.lt_or_ge j i with h | h
 exact hi.2 j h
 obtain rfl : j = i := by omega
 rw [Int.toNat_natCast, ax (by omega), ax (by omega)] at hc26
 rw [List.getElem?_eq_getElem (by omega), List.getElem?_eq_getElem (by omega), hc26]
 try simp only [aT] at hc14
 refine aO (ah (js O Z (jr ?_)))
 refine ⟨.inl Z, _, am, _, Z, ?_⟩
 have e : xs = ys := List.ext_getElem? fun j => by
  rcases Nat.lt_or_ge j i with h | h
  ·
   exact hi.2 j h
  ·
   rw [List.getElem?_eq_none (by omega), List.getElem?_eq_none (by omega)]
 rw [decide_eq_true e]
theorem D2 : MQ h1 h2 67 [.c (.d (x6 [])), eI k] [] (Plain (eI k)) := by
 refine aA ?_ Z
 refine jB 50 h1 h2 Tryz.func67 Z Z Z fun O hF => ?_
 refine ah (js O Z (jn (ag (ah (js O Z (jn (ao (aq (X := Nat) (fun i => ⟨[(0, .c (.d (x6 []))), (1, eI k), (5, eI 0)], []⟩) (fun i => True) (fun i => 0) 0 (Ent.env ⟨Z, Z, Z, trivial⟩) ?_ (fun i hi => ?_)))))))))
 trivial
 refine ag (ah (j2 O Z Z (cu O Z (js O Z (jn (ae O Z Z (fun hc9 => ?_) (fun hc9 => ?_)))))))
 try simp only [aT] at hc9
 exact absurd hc9 (by simp)
 try simp only [aT] at hc9
 refine aO (ah (j2 O Z Z (jr ?_)))
 refine ⟨.inl Z, _, am, _, Z, ?_⟩
 first | rfl | skip
theorem Ey {ts : List Nd} (hk0 : 0 ≤ k) (hk1 : k + cn nN ts ≤ 1073741824) : MQ h1 h2 67 [.c (.rs 0 0 ts.length), eI k] [(0, mo ts)] (bc (eI (k + cn nN ts)) [(0, mo (bb mN nN k ts))]) := by
 refine jH 50 [0] h1 h2 Tryz.func67 Z Z Z Z fun O hF => ?_
 refine hJ 0 Z (fun hB => ?_)
 have hl : ts.length ≤ L := by simpa [B.fact] using hB.1
 refine ah (js O Z (jn (ag (ah (js O Z (jn (ao (aq (X := Nat) (fun i => ⟨[(0, .c (.rs 0 0 ts.length)), (1, eI (k + cn nN (ts.take i))), (5, eI i)], [(0, mo (mk mN nN k i ts))]⟩) (fun i => i ≤ ts.length) (fun i => ts.length - i) 0 (Ent.to ⟨Z, by simp [cg, aF, cn], Z, trivial⟩ (by simp [kP])) ?_ (fun i hi => ?_)))))))))
 exact ct _
 refine ag (ah (j2 O Z Z (dk O Z Z (js O Z (jf [9,0,1,5] Z (jn (ae O Z Z (fun hc9 => ?_) (fun hc9 => ?_))))))))
 try simp only [aT] at hc9
 refine aj (ag (ao (ah (j3 O Z Z Z (dk O Z Z (js O Z (jf [16,14,9,0,1,5] Z ?_)))))))
 obtain ⟨K, hK⟩ : ∃ K, K = k + (cn nN (ts.take i) : Int) := ⟨_, rfl⟩
 rw [← hK]
 have hcs := gU (sz := nN) (show i < ts.length by omega)
 have hcl := lP (sz := nN) (l := ts) (i := i + 1)
 have hg := lL (f := mN) (sz := nN) (k := k) (show i < ts.length by omega)
 have hs := jG (f := mN) (sz := nN) (k := k) (show i < ts.length by omega)
 rw [← ax (show i < ts.length by omega)] at hcs hg hs
 obtain ⟨t, ht⟩ : ∃ t, t = ts.getD i default := ⟨_, rfl⟩
 rw [← ht] at hcs hg hs
 rw [← hK] at hs
 simp only [nN] at hcs
 have hb : K + (3 + t.term.xs.length + t.mul.length : Nat) ≤ 1073741824 := by omega
 obtain ⟨R, hR⟩ : ∃ R, R = (mk mN nN k i ts).map Nd.cells := ⟨_, rfl⟩
 have hRl : i < R.length := by rw [hR, bz, gZ]; omega
 have hRi : R[i]? = some t.cells := by rw [hR, List.getElem?_map, hg]; rfl
 have hRn : R.set i (mN K t).cells = (mk mN nN k (i + 1) ts).map Nd.cells := by rw [hR, ← hs, List.map_set]
 have e0 : mo (mk mN nN k i ts) = .row true 5 (R.set i t.cells) := by rw [jR hRi, hR]
 rw [e0]
 refine AOps.heap (bg (ex := [.int .i64 (t.kind), .int .i64 (t.fact), .int .i64 (t.term.c), bj (t.term.xs), bj (t.mul)]) (xs' := R.set i [.int .i64 (K), .int .i64 (t.fact), .int .i64 (t.term.c), bj (t.term.xs), bj (t.mul)]) O Z Z Z Z Z Z Z Z Z Z Z Z Z Z (by simp [hRl]) (by simp)) Z (au ?_)
 refine jf [9,0,1,5] Z (aV (js O Z (ji O Z (js O Z (jf [1,9,0,5] Z (aV (j3 O Z Z Z (dk O Z Z (js O Z (jf [23,21,1,9,0,5] Z (AOps.heap (bg (ex := [.int .i64 (K), .int .i64 (t.fact), .int .i64 (t.term.c), bj (t.term.xs), bj (t.mul)]) (xs' := R.set i [.int .i64 (K), .int .i64 (K + 1), .int .i64 (t.term.c), bj (t.term.xs), bj (t.mul)]) O Z Z Z Z Z Z Z Z Z Z Z Z Z Z (by simp [hRl]) (by simp)) Z (au ?_))))))))))))
 refine jf [1,9,0,5] Z (aV (js O Z (ji O Z (js O Z (jf [1,9,0,5] Z (aV (j3 O Z Z Z (dk O Z Z (j2 O Z Z (jf [31,28,1,9,0,5] Z (AOps.heap (bg (ex := [.int .i64 (K), .int .i64 (K + 1), .int .i64 (t.term.c), bj (t.term.xs), bj (t.mul)]) (xs' := R.set i [.int .i64 (K), .int .i64 (K + 1), .int .i64 (K + 1 + 1), bj (t.term.xs), bj (t.mul)]) O Z Z Z Z Z Z Z Z Z Z Z Z Z Z (by simp [hRl]) (by simp)) Z (au ?_))))))))))))
 refine jf [1,9,0,5] Z (aV (js O Z (ji O Z (js O Z (jf [1,9,0,5] Z (aV (j2 O Z Z (dk O Z Z (j2 O Z Z (ac (aS O (ex := [.int .i64 (K), .int .i64 (K + 1), .int .i64 (K + 1 + 1), bj (t.term.xs), bj (t.mul)]) Z Z Z Z (by simp [hRl]) Z) Z Z Z (js O Z (jf [40,39,1,9,0,5] Z (ej O (l := 0) (j := 3) (z := 1) (ex := [.int .i64 (K), .int .i64 (K + 1), .int .i64 (K + 1 + 1), bj (t.term.xs), bj (t.mul)]) (ys := (t.term.xs).map (fun n => [D.int .i64 n])) (ys' := (bb mI cv (K + 1 + 1 + 1) t.term.xs).map (fun n => [D.int .i64 n])) (xs' := R.set i [.int .i64 (K), .int .i64 (K + 1), .int .i64 (K + 1 + 1), bj (bb mI cv (K + 1 + 1 + 1) t.term.xs), bj (t.mul)]) Z Z Z Z (.rp (.d Z .nil)) (.rp (.d Z .nil)) Z (by simp [hRl]) Z (w5 (xs := t.term.xs) (k := (K + 1 + 1 + 1)) h1 h2 (by omega) (by omega)).1 (fun _ => by rw [bz]; exact w5 (xs := t.term.xs) h1 h2 (by omega) (by omega)) (fun hys => ?_) Z (by simp [bq]) Z Z Z Z (by simp) ?_)))))))))))))
 have hy : t.term.xs = [] := by simpa using hys
 rw [hy]
 exact (u9 h1 h2 (k := (K + 1 + 1 + 1))).plain (by simp [cn, hy])
 refine au ?_
 refine js O Z (jf [1,9,0,5] Z (jn (ak (j2 O Z Z (dk O Z Z (js O Z (ac (aS O (ex := [.int .i64 (K), .int .i64 (K + 1), .int .i64 (K + 1 + 1), bj (bb mI cv (K + 1 + 1 + 1) t.term.xs), bj (t.mul)]) Z Z Z Z (by simp [hRl]) Z) Z Z Z (js O Z (jf [47,46,1,9,0,5] Z (ej O (l := 0) (j := 4) (z := 1) (ex := [.int .i64 (K), .int .i64 (K + 1), .int .i64 (K + 1 + 1), bj (bb mI cv (K + 1 + 1 + 1) t.term.xs), bj (t.mul)]) (ys := (t.mul).map (fun n => [D.int .i64 n])) (ys' := (bb mI cv (K + 1 + 1 + 1 + t.term.xs.length) t.mul).map (fun n => [D.int .i64 n])) (xs' := R.set i [.int .i64 (K), .int .i64 (K + 1), .int .i64 (K + 1 + 1), bj (bb mI cv (K + 1 + 1 + 1) t.term.xs), bj (bb mI cv (K + 1 + 1 + 1 + t.term.xs.length) t.mul)]) Z Z Z Z (.rp (.d Z .nil)) (.rp (.d Z .nil)) Z (by simp [hRl]) Z (w5 (xs := t.mul) (k := (K + 1 + 1 + 1 + t.term.xs.length)) h1 h2 (by omega) (by omega)).1 (fun _ => by rw [bz]; exact w5 (xs := t.mul) h1 h2 (by omega) (by omega)) (fun hys => ?_) Z (by simp [bq]) Z Z Z Z (by simp) ?_))))))))))
 have hy : t.mul = [] := by simpa using hys
 rw [hy]
 exact (u9 h1 h2 (k := (K + 1 + 1 + 1 + t.term.xs.length))).plain (by simp [cn, hy])
 refine au ?_
 refine js O Z (jf [1,9,0,5] Z (jn (ak (js O Z (ji O Z (js O Z (jf [5,1,9,0] Z (jn ?_))))))))
 refine ⟨i + 1, Ent.to ⟨Z, ?_, Z, trivial⟩ (by rw [mo, ← hRn]), by omega, by omega⟩
 rw [hcs]
 exact congrArg (fun z => some (eI z)) (by omega)
 try simp only [aT] at hc9
 refine aO (ah (j2 O Z Z (jr ?_)))
 refine ⟨.inl Z, _, am, _, Z, ?_⟩
 obtain rfl : i = ts.length := by omega
 rw [nk (cC _), List.take_length]
 exact ⟨Z, Z⟩
theorem qO {L : Nat} (h1 : 4096 ≤ L) (h2 : L ≤ 1073741824) {xs : List Int} : MC Tryz.prog L 88 [bH xs] [] (Plain (bH xs)) := (xk h1 h2).frozen (.v (.c (.whole rfl (bz _).symm)))
theorem yA {L : Nat} (h1 : 4096 ≤ L) (h2 : L ≤ 1073741824) {xs : List Int} : MC Tryz.prog L 127 [bH xs] [] (Plain (bH xs)) := (ve h1 h2).frozen (.v (.c (.whole rfl (bz _).symm)))
abbrev aH (ts : List Tm) : B := .row false 2 (ts.map Tm.cells)

theorem y7 : MQ h1 h2 193 [ptr t.cells] [] (Plain (cL t)) := by
 refine MC.data (jB 13 h1 h2 Tryz.func193 Z Z Z fun O hF => ?_)
 refine ah (jl O Z (jn (ag (gL O [_,_,_,_,_,_,_,_,_,_,_] [pn [] 0 1, pn [0] 0 1, pn [0,1] 0 1, pn [0,1,2] 0 1, pn [] 0 0, pn [4] 0 0, pn [4,5] 0 0, pn [4,5,6] 0 0, pe (rg 4 4) 0, pn (rg 0 9) 1 1, pe (rg 0 10) 1] [8,10] [_,_,_] (ai (kc O Z (V O Z)) (ai (kc O Z (V O Z)) (ai (kc O Z (V O Z)) (ai (kc O Z (V O Z)) (kc O Z (kc O Z (kc O Z (kc O Z (ai (bo O (B0 := 12000) Z Z Z Z (qO (xs := t.xs) h1 h2) (aa Z) Z Z Z Z Z) (kc O Z (ai (eS O Z Z Z) trivial))))))))))) ?_))))
 refine dz ?_
 refine ⟨.inl Z, _, am, _, Z, ?_⟩
 exact .v (.agg (aE Z))
theorem xl : MQ h1 h2 94 [cL t] [] (Plain (cL t)) := by
 refine MC.data (jB 9 h1 h2 Tryz.func94 Z Z Z fun O hF => ?_)
 refine ah (jx O Z (jl O Z (jn (ag (gL O [_,_,_,_,_,_,_] [pn [] 0 1, pn [0] 0 1, pn [] 0 0, pn [2] 0 0, pe [2,3] 0, pn (rg 0 5) 1 1, pe (rg 0 6) 1] [4,6] [_,_,_] (ai (kc O Z (V O Z)) (ai (kc O Z (V O Z)) (kc O Z (kc O Z (ai (bo O (B0 := 8000) Z Z Z Z (yA (xs := t.xs) h1 h2) (aa Z) Z Z Z Z Z) (kc O Z (ai (eS O Z Z Z) trivial))))))) ?_)))))
 refine dz ?_
 refine ⟨.inl Z, _, am, _, Z, ?_⟩
 exact .v (.agg (aE Z))
theorem pM : MQ h1 h2 167 [bN ts] [] (Rows (.c (.rs 0 0 ts.length)) [aH ts]) := by
 refine bI (jB 20 h1 h2 Tryz.func167 Z Z Z fun O hF => ?_)
 have hl : ts.length ≤ L := by simpa [As.fact, A.fact, M.fact, D.fact, Ds.fact] using hF.1.1
 refine ah (js O Z (aV (AOps.heap (bA O Z Z Z) Z (js O Z (jn (ag (ah (js O Z (jn (ao (aq (X := Nat) (fun i => ⟨[(0, bN ts), (3, .c (.rs 900 0 i)), (4, eI i)], [(900, aH (ts.take i))]⟩) (fun i => i ≤ ts.length) (fun i => ts.length - i) 0 ((cZ 5 Z).trans ((af 5 900 Z Z).trans (Ent.to ⟨Z, Z, Z, trivial⟩ Z))) ?_ (fun i hi => ?_))))))))))))
 exact ct _
 refine ag (ah (j2 O Z Z (cu O Z (js O Z (jf [9,0,3,4] Z (jn (ae O Z Z (fun hc9 => ?_) (fun hc9 => ?_))))))))
 try simp only [aT] at hc9
 refine aj (ag (ao (ak (j3 O Z Z Z (lz O Z Z (jf [15,12,9,0,3,4] Z (ar O Z Z Z Z (y7 h1 h2) (aa Z) Z Z Z Z (B0 := 17000) Z Z (jf [16,12,9,0,3,4] Z (AOps.heap (bE O Z Z Z Z Z Z Z Z Z Z Z) Z (jf [17,12,9,0,3,4] Z (AOps.heap (aU (own := false) (zs := (ts.take (i + 1)).map Tm.cells) (n := i + 1) O Z Z Z Z Z Z Z Z Z Z Z Z Z Z Z Z (.row Z (by simp; omega)) (.whole Z Z (.inr ⟨Z, Z⟩)) (by simp) Z (by simp; omega) (by simp; omega) (by rw [List.take_succ_eq_append_getElem (by omega), List.map_append, Int.toNat_natCast, ax (by omega)]; rfl) (by simp; omega)) Z (js O Z (jf [3,9,0,4] Z (jn (ak (js O Z (ji O Z (js O Z (jf [4,3,9,0] Z (jn ?_))))))))))))))))))))
 refine ⟨i + 1, (aw [18] (e' := [(0, _), (3, _), (4, _)]) Z Z ⟨Z, Z, Z, trivial⟩ Z).trans (af 18 900 Z Z), by omega, by omega⟩
 try simp only [aT] at hc9
 refine aO (ah (j2 O Z Z (jr ?_)))
 obtain rfl : i = ts.length := by omega
 rw [List.take_length]
 refine ⟨.inl Z, _, am, _, Z, [900], by decide, Z, Z, Z⟩
theorem D0 : MQ h1 h2 52 [bN ts] [] (Rows (.c (.rs 0 0 ts.length)) [aH ts]) := by
 refine bI (jB 19 h1 h2 Tryz.func52 Z Z Z fun O hF => ?_)
 have hl : ts.length ≤ L := by simpa [As.fact, A.fact, M.fact, D.fact, Ds.fact] using hF.1.1
 refine ah (js O Z (aV (js O Z (jn (ag (ah (js O Z (cu O Z (js O Z (jn (ao (aq (X := Nat) (fun i => ⟨[(3, .c (.rs 900 0 i)), (6, bN ts), (7, eI ts.length), (8, eI i)], [(900, aH (ts.take i))]⟩) (fun i => i ≤ ts.length) (fun i => ts.length - i) 0 ((cb 3 900 2 false Z Z).trans (Ent.to ⟨Z, Z, Z, Z, trivial⟩ Z)) ?_ (fun i hi => ?_)))))))))))))
 exact ct _
 refine ah (js O Z (jn (ag (ae O Z Z (fun hc9 => ?_) (fun hc9 => ?_)))))
 try simp only [aT] at hc9
 refine aj (ag (ao (ah (lz O Z Z (js O Z (jf [11,9,3,6,7,8] Z (jl O Z (jo O Z (jn (ak (j2 O Z Z (ar O Z Z Z Z (xl h1 h2) (aa Z) Z Z Z Z (B0 := 15000) Z Z (jf [14,12,5,11,9,3,6,7,8] Z (AOps.heap (bE O Z Z Z Z Z Z Z Z Z Z Z) Z (jf [15,12,5,11,9,3,6,7,8] Z (AOps.heap (aU (own := false) (zs := (ts.take (i + 1)).map Tm.cells) (n := i + 1) O Z Z Z Z Z Z Z Z Z Z Z Z Z Z Z Z (.row Z (by simp; omega)) (.whole Z Z (.inr ⟨Z, Z⟩)) (by simp) Z (by simp; omega) (by simp; omega) (by rw [List.take_succ_eq_append_getElem (by omega), List.map_append, Int.toNat_natCast, ax (by omega)]; rfl) (by simp; omega)) Z (js O Z (jf [3,5,11,9,6,7,8] Z (jn (ak (ji O Z (js O Z (jn ?_)))))))))))))))))))))))
 refine ⟨i + 1, (aw [16] (e' := [(3, _), (6, _), (7, _), (8, _)]) Z Z ⟨Z, Z, Z, Z, trivial⟩ Z).trans (af 16 900 Z Z), by omega, by omega⟩
 try simp only [aT] at hc9
 refine aO (ah (j2 O Z Z (jr ?_)))
 obtain rfl : i = ts.length := by omega
 rw [List.take_length]
 refine ⟨.inl Z, _, am, _, Z, [900], by decide, Z, Z, Z⟩
theorem ya {L : Nat} (h1 : 4096 ≤ L) (h2 : L ≤ 1073741824) {ts : List Tm} : MC Tryz.prog L 167 [bN ts] [] (Plain (bN ts)) := (pM h1 h2).frozen (.v (.c (.whole rfl (bz _).symm)))
def bF (xs : List Int) : List Int := (xs.reverse.dropWhile (· == 0)).reverse
theorem oN {xs : List Int} : bF (xs ++ [0]) = bF xs := by simp [bF]
theorem t7 {xs : List Int} {x : Int} (h : x ≠ 0) : bF (xs ++ [x]) = xs ++ [x] := by simp [bF, h]
theorem lR {xs : List Int} {n : Nat} (h : n < xs.length) (h0 : xs.getD n default = 0) : bF (xs.take (n + 1)) = bF (xs.take n) := by
 rw [List.take_succ_eq_append_getElem h, ← ax h, h0, oN]
theorem jN {xs : List Int} {n : Nat} (hn : n ≤ xs.length) (h : n = 0 ∨ xs.getD (n - 1) default ≠ 0) : bF (xs.take n) = xs.take n := by
 cases n with
 | zero => simp [bF]
 | succ n =>
  have h' : xs.getD n default ≠ 0 := by
   rcases h with h | h
   cases h
   exact h
  rw [ax (by omega)] at h'
  rw [List.take_succ_eq_append_getElem (by omega), t7 h']
def oo (c : Int) (xs : List Int) : Tm × Bool := if (Tm.mk c (bF xs)).ok = true then (⟨c, bF xs⟩, true) else (⟨0, []⟩, false)
abbrev gn (r : Tm × Bool) : A := .tup [cL r.1, eB r.2]
def kH (a : Tm) (m : Int) (b : Tm) (n : Int) : List Int := (List.range 10).map fun i => m * a.xs.getD i 0 + n * b.xs.getD i 0
def u3 (a : Tm) (m : Int) (b : Tm) (n : Int) : Tm × Bool := oo (m * a.c + n * b.c) (kH a m b n)
def aR (t : Tm) : Tm × Bool := u3 t (-1) ⟨1, []⟩ (-1)
structure Small (t : Tm) : Prop where
  c : num t.c = true
  xs : t.xs.all num = true
theorem dZ {a b : Int} (h1 : num a = true) (h2 : num b = true) : -1000000000000 ≤ a * b ∧ a * b ≤ 1000000000000 := by
 have h1 := Db.1 h1
 have h2 := Db.1 h2
 have h3 : a.natAbs ≤ 1000000 := by omega
 have h4 : b.natAbs ≤ 1000000 := by omega
 have h5 := Nat.mul_le_mul h3 h4
 rw [← Int.natAbs_mul] at h5
 omega
theorem Small.get {t : Tm} (h : Small t) (i : Nat) : num (t.xs.getD i 0) = true := by
 by_cases hi : i < t.xs.length
 have : t.xs.getD i 0 = t.xs[i] := by simp [hi]
 rw [this]
 exact List.all_eq_true.1 h.xs _ (List.getElem_mem hi)
 have : t.xs.getD i 0 = 0 := by simp [Nat.not_lt.1 hi]
 rw [this]; decide
theorem Small.of {t : Tm} (h : t.ok = true) : Small t := by
 simp only [Tm.ok, bP, Bool.not_eq_true'] at h
 refine ⟨?_, h.2⟩
 cases hn : num t.c with
 | true => rfl
 | false => rw [hn] at h; simp at h
theorem ua {a b : Tm} {m n : Int} {i : Nat} (h : i < 10) : (kH a m b n).take (i + 1) = (kH a m b n).take i ++ [m * a.xs.getD i 0 + n * b.xs.getD i 0] := by
 rw [List.take_succ_eq_append_getElem (by simpa [kH] using h)]
 simp [kH]
theorem er {a b : Tm} {m n : Int} : (kH a m b n).length = 10 := by simp [kH]
theorem lK {t : Tm} (h : t.ok = true) : t.xs.length ≤ 10 := by
 simp only [Tm.ok, bP, Bool.not_eq_true'] at h
 by_cases h1 : (10 : Int) < t.xs.length
 rw [decide_eq_true h1] at h
 cases num t.c <;> simp at h
 omega
theorem qL {c : Int} : MQ h1 h2 47 [eI c, bH xs] [] (Plain (gn (oo c xs))) := by
 refine MC.data (jB 32 h1 h2 Tryz.func47 Z Z Z fun O hF => ?_)
 have hl : xs.length ≤ L := by simpa [As.fact, A.fact, M.fact, D.fact, Ds.fact] using hF.2.1.1
 refine ah (jl O Z (js O Z (aV (js O Z (cu O Z (js O Z (jf [6,5,4,0,1] Z (jn (ag (ao (aq (X := Nat) (fun n => ⟨[(0, eI c), (1, bH xs), (4, .c (.pt 4 0 0)), (6, eI n)], [(4, .box [.d (.int .i64 0), .d .nils])]⟩) (fun n => n ≤ xs.length ∧ bF (xs.take n) = bF xs) (fun n => n) xs.length (Ent.env ⟨Z, Z, Z, Z, trivial⟩) ?_ (fun n hi => ?_))))))))))))
 exact ⟨cC _, by rw [List.take_length]⟩
 refine ag (ah (j3 O Z Z Z (jf [12,0,1,4,6] Z (az 6 Z Z Z (fun hx => ab hx Z Z Z (V O Z) Z Z ( ab hx Z Z Z (V O Z) Z Z ( ab hx Z Z Z (vF O Z) Z Z ( ab hx Z Z Z (vD O Z) Z Z ( ab hx Z Z Z (V O Z) Z Z ( ab hx Z Z Z (V O Z) Z Z ( AN.nil))))))) Z Z (ac (aC O Z Z Z Z Z) Z Z Z (jf [19,0,1,4,6] Z (jn (ae O Z Z (fun hc19 => ?_) (fun hc19 => ?_)))))))))
 refine aj (ao (ak (js O Z (ji O Z (js O Z (jf [6,19,0,1,4] Z (jn ?_)))))))
 rw [Bool.cond_false_right, bP, decide_eq_true_eq, decide_eq_true_eq] at hc19
 obtain ⟨k, hk⟩ : ∃ k, n = k + 1 := ⟨n - 1, by omega⟩
 subst hk
 have hk2 : ((k + 1 : Nat) : Int) - 1 = k := by omega
 rw [hk2] at hc19
 refine ⟨k, Ent.to ⟨Z, Z, Z, by rw [hk2]; rfl, trivial⟩ Z, ⟨by omega, ?_⟩, Nat.lt_succ_self k⟩
 rw [← hi.2, lR (by omega) (by simpa using hc19.2)]
 refine aO (ah (j3 O Z Z Z ?_))
 have hd : bF (xs.take n) = xs.take n := jN hi.1 (by
  rw [Bool.cond_false_right] at hc19
  rcases Nat.eq_zero_or_pos n with h0 | h0
  ·
   exact .inl h0
  ·
   refine .inr (fun h9 => ?_)
   have e1 : ((n : Int) - 1).toNat = n - 1 := by omega
   rw [e1, h9] at hc19; simp at hc19; omega)
 have ht := hi.2
 rw [hd] at ht
 refine ac ((fJ O Z Z ⟨by omega, by simp; omega⟩).cast (v' := bH (bF xs)) (by rw [← ht]; simp [List.map_take])) Z Z Z (jf [25,22,19,0,1,4,6] Z (ar O Z Z Z Z (qO (xs := bF xs) h1 h2) (aa Z) Z Z Z Z (B0 := 27000) Z Z (js O Z (jf [27,19,0,1,4,6] Z (jl O Z (jo O Z (jn (ag (ah (ap O Z Z Z Z (xm (t := ⟨c, bF xs⟩) h1 h2) (.cons (.c (.pb (cs := Tm.cells ⟨c, bF xs⟩) Z (aE Z))) .nil) Z Z Z Z Z (B0 := 29000) Z (js O Z (jn (ae O Z Z (fun hc29 => ?_) (fun hc29 => ?_))))))))))))))
 refine ah (js O Z (jo O Z (js O Z (jr ?_))))
 refine ⟨.inl Z, _, am, _, Z, ?_⟩
 have hok : (Tm.mk c (bF xs)).ok = false := by simpa using hc29
 rw [show oo c xs = (⟨0, []⟩, false) from if_neg (by rw [hok]; decide)]
 exact .tup (.cons (.agg (.cons .d (.cons .nils .nil))) (.cons (.c .d) .nil))
 refine aj (ah (js O Z (jo O Z (js O Z (jr ?_)))))
 refine ⟨.inl Z, _, am, _, Z, ?_⟩
 have hok : (Tm.mk c (bF xs)).ok = true := by simpa using hc29
 rw [show oo c xs = (⟨c, bF xs⟩, true) from if_pos hok]
 exact .tup (.cons (.agg (aE Z)) (.cons (.c .d) .nil))
theorem y2 {i : Nat} (hi : i < 10) : MQ h1 h2 203 [ptr t.cells, eI i] [] (Plain (eI (t.xs.getD i 0))) := by
 refine aA ?_ Z
 refine jB 19 h1 h2 Tryz.func203 Z Z Z fun O hF => ?_
 have hl : t.xs.length ≤ L := by simpa [As.fact, A.fact, M.fact, D.fact, Ds.fact] using hF.1.2.1.1
 refine ah (js O Z (jn (ag (ah (j4 O Z Z Z Z (js O Z (cu O Z (js O Z (jf [11,4,0,1] Z (jn (ae O Z Z (fun hc11 => ?_) (fun hc11 => ?_))))))))))))
 try simp only [aT] at hc11
 refine ah (j4 O Z Z Z Z (js O Z (lz O Z Z (j2 O Z Z (jf [4,0,1] Z (jr ?_))))))
 refine ⟨.inl Z, _, am, _, Z, ?_⟩
 rw [Int.toNat_natCast]
 have : t.xs.getD i 0 = t.xs.getD i default := rfl
 rfl
 try simp only [aT] at hc11
 refine aj (ah (js O Z (jr ?_)))
 refine ⟨.inl Z, _, am, _, Z, ?_⟩
 have : t.xs.getD i 0 = 0 := by simp [show t.xs.length ≤ i by omega]
 rw [this]
theorem Bi {a b : Tm} {m : Int} (ha : Small a) (hb : Small b) (hm : num m = true) (hn : num n = true) : MQ h1 h2 181 [ptr a.cells, eI m, ptr b.cells, eI n] [] (Plain (gn (u3 a m b n))) := by
 refine MC.data (jB 48 h1 h2 Tryz.func181 Z Z Z fun O hF => ?_)
 refine ah (jl O Z (js O Z (aV (AOps.heap (bA O Z Z Z) Z (js O Z (jn (ag (ah (js O Z (jn (ao (aq (X := Nat) (fun i => ⟨[(0, ptr a.cells), (1, eI m), (2, ptr b.cells), (3, eI n), (8, .c (.pt 8 0 0)), (10, .c (.rs 900 0 i)), (11, eI i)], [(8, .box [.d (.int .i64 0), .d .nils]), (900, aX ((kH a m b n).take i))]⟩) (fun i => i ≤ 10) (fun i => 10 - i) 0 ((af 12 900 Z Z).trans (Ent.to ⟨Z, Z, Z, Z, Z, Z, Z, trivial⟩ Z)) ?_ (fun i hi => ?_)))))))))))))
 exact ct _
 refine ag (ah (j2 O Z Z (jn (ae O Z Z (fun hc14 => ?_) (fun hc14 => ?_)))))
 try simp only [aT] at hc14
 refine aj (ag (ao (ak ?_)))
 have q1 := dZ hm (ha.get i)
 have q2 := dZ hn (hb.get i)
 refine j4 O Z Z Z Z (ap O Z Z Z Z (y2 (t := a) (i := i) h1 h2 (by omega)) (aa Z) Z Z Z Z Z (B0 := 22000) Z (ji O Z (j3 O Z Z Z (jf [25,24,23,22,17,14,13,0,1,2,3,8,10,11] Z (ap O Z Z Z Z (y2 (t := b) (i := i) h1 h2 (by omega)) (aa Z) Z Z Z Z Z (B0 := 27000) Z (ji O Z (ji O Z (jf [28,17,14,13,0,1,2,3,8,10,11] Z (AOps.heap (bA O Z Z Z) Z (jf [29,17,14,13,0,1,2,3,8,10,11] Z (AOps.heap (cm (zs := ((kH a m b n).take (i + 1)).map fun n => [.int .i64 n]) (n := i + 1) O Z Z Z Z Z Z Z Z Z Z Z Z Z Z Z Z (.row Z (by simp [er]; omega)) Z Z (by decide) Z (by simp [er]; omega) (by simp [er]; omega) (by rw [ua (by omega), List.map_append]; rfl) (by simp [er]; omega)) Z (js O Z (jf [10,14,13,0,1,2,3,8,11] Z (jn (ak (js O Z (ji O Z (js O Z (jf [11,10,14,13,0,1,2,3,8] Z (jn ?_))))))))))))))))))))
 refine ⟨i + 1, ((aw [8,30] (e' := [(0, _), (1, _), (2, _), (3, _), (8, _), (10, _), (11, _)]) Z Z ⟨Z, Z, Z, Z, Z, Z, Z, trivial⟩ Z).trans (af 30 900 Z Z)), by omega, by omega⟩
 try simp only [aT] at hc14
 refine aO (ag ?_)
 obtain rfl : i = 10 := by omega
 rw [List.take_of_length_le (by rw [er]; decide)]
 have q1 := dZ hm ha.c
 have q2 := dZ hn hb.c
 refine iq (Ent.freeze 900 (e' := [(10, _), (8, _), (0, _), (1, _), (2, _), (3, _)]) Z (.cons Z (.c (.row Z (by simp [er]))) (fe [8,0,1,2,3] Z)) (.cons Z (.box (fk Z)) (.skip .nil))) ?_
 refine gL O [_,_,_,_,_,_,_,_,_,_,_,_,_,_,_,_,_,_,_] [pn [] 0 0, pn [] 0 0, pn [1] 0 0, pn [1,2] 0 0, pn [1,2,3] 0 0, pn (rg 0 5) 0 0, pn [] 0 0, pn [] 0 0, pn [7] 0 0, pn [7,8] 0 0, pn [7,8,9] 0 0, pn (rg 6 5) 0 0, pn (rg 0 12) 0 0, pn [] 0 0, pe (rg 0 14) 0, pn (rg 0 15) 1 1, pn (rg 0 15) 1 1, pe (rg 0 17) 1, pn (rg 0 18) 2 2] [14,17] [_,_,_] (kc O Z (kc O Z (kc O Z (kc O Z (kc O Z (ai (vF O Z) (kc O Z (kc O Z (kc O Z (kc O Z (kc O Z (ai (vF O Z) (ai (vF O Z) (kc O Z (ai (bo O (B0 := 46000) Z Z Z Z (qL (c := m * a.c + n * b.c) (xs := kH a m b n) h1 h2) (aa Z) Z Z Z Z Z) (kc O Z (kc O Z (ai (eS O Z Z Z) (kc O Z trivial))))))))))))))))))) ?_
 refine jw [9,10,8,0,1,2,3] Z (b9 ?_)
 refine dz ?_
 refine ⟨.inl Z, _, am, _, Z, ?_⟩
 exact .tup (.cons (.agg (aE Z)) (.cons (.c .d) .nil))
theorem vc (ht : Small t) : MQ h1 h2 144 [ptr t.cells] [] (Plain (gn (aR t))) := by
 refine MC.data (jB 10 h1 h2 Tryz.func144 Z Z Z fun O hF => ?_)
 refine ah (jl O Z (js O Z (aV (j2 O Z Z (jf [5,4,3,2] Z (jx O Z (jf [6,4,3,2] Z (ay (Ent.freeze 6 (e' := [(6, _), (4, _), (2, _)]) Z (.cons Z (.c (.box (cs := Tm.cells ⟨1, []⟩) Z (.cons .d (.cons .nils .nil)))) (fe [4,2] Z)) (.cons Z (.box (fk Z)) (.skip .nil))) ?_))))))))
 refine ar O Z Z Z Z (Bi (a := t) (m := -1) (b := ⟨1, []⟩) (n := -1) h1 h2 ht ⟨by decide, by decide⟩ (by decide) (by decide)) (aa Z) Z Z Z Z (B0 := 8000) Z Z (j2 O Z Z (jf [9,8,2] Z (jo O Z (js O Z (jf [3,2] Z (jr ?_))))))
 refine ⟨.inl Z, _, am, _, Z, ?_⟩
 exact .tup (.cons (.agg (aE Z)) (.cons (.c .d) .nil))
def pL (s : Sq) : List Tm × Bool := if (aR s.goal).2 = true then (s.facts ++ [(aR s.goal).1], true) else ([], false)
abbrev Bd (r : List Tm × Bool) : A := .tup [bN r.1, eB r.2]
theorem Ei {s : Sq} (hg : Small s.goal) (hn : s.facts.length ≤ 1000) : MQ h1 h2 140 [ptr s.cells] [] (Plain (Bd (pL s))) := by
 refine MC.data (jB 23 h1 h2 Tryz.func140 Z Z Z fun O hF => ?_)
 refine ah (j2 O Z Z (aV (j3 O Z Z Z (jf [9,3,2,0] Z (ar O Z Z Z Z (vc (t := s.goal) h1 h2 hg) (.cons (.c (.sub Z)) .nil) Z Z Z Z (B0 := 11000) Z Z (j3 O Z Z Z (jf [12,11,3,2,0] Z (jl O Z (jo O Z (js O Z (jf [5,4,3,2,0] Z (jn (ag (ah (j2 O Z Z (jf [14,4,3,2,0] Z (jn (ae O Z Z (fun hc14 => ?_) (fun hc14 => ?_)))))))))))))))))))
 try simp only [aT] at hc14
 refine ah (j2 O Z Z (jr ?_))
 refine ⟨.inl Z, _, am, _, Z, ?_⟩
 have hok : (aR s.goal).2 = false := hc14
 rw [show pL s = ([], false) from if_neg (by rw [hok]; decide)]
 exact .tup (.cons (.c .nils) (.cons (.c .d) .nil))
 try simp only [aT] at hc14
 refine aj (ag (jw [4,0] Z (oq O [_,_,_,_,_,_,_,_,_,_] [pn [] 0 0, pn [0] 0 0, pn [0,1] 0 0, pn [0,1,2] 0 0, pe [0,1,2,3] 0, pn [] 0 1, pn [5] 0 1, pe [0,1,2,3,4,5,6] 1, pn [0,1,2,3,4,5,6,7] 2 2, pn [0,1,2,3,4,5,6,7,8] 2 2] [4,7] 6 21 (.row false 2 [Tm.cells (aR s.goal).1]) [_,_] [_] [[], [20000]] (kf O Z Z Z (kf O Z Z Z (kf O Z Z Z (kf O Z Z Z (ai (ai (aD (aG (dv O (B0 := 20000) Z Z Z Z (pM (ts := s.facts) h1 h2) (aa Z) Z Z Z Z)) (aG (dv O (B0 := 20000) Z Z Z Z (pM (ts := s.facts) h1 h2) (aa Z) Z Z Z Z))) Z) (ai (kf O Z Z Z (kg O Z Z Z)) (ai (ai (ai (aG (ck O Z Z Z Z Z Z Z Z Z Z Z Z Z Z)) Z) (ai (aG (ck O Z Z Z Z Z Z Z Z Z Z Z Z Z Z)) Z)) (ai (ai (aD trivial (bU (own := false) (xs := s.facts.map Tm.cells) (ys := [Tm.cells (aR s.goal).1]) (zs := (s.facts ++ [(aR s.goal).1]).map Tm.cells) (n := (s.facts ++ [(aR s.goal).1]).length) O Z Z Z Z Z Z Z Z Z Z Z Z Z Z Z Z (.row Z (bz _).symm) (.whole Z Z (.inr ⟨Z, Z⟩)) (by simp) Z (by simp; omega) (by simp; omega) (by simp) (by simp) Z)) Z) (ai (ai (aD trivial (V O Z)) Z) (ai (ai (aD trivial (V O Z)) Z) trivial)))))))))) ?_)))
 refine jw [3,2,4,0] Z (b9 ?_)
 refine dz ?_
 refine ⟨.inl Z, _, am, _, Z, ?_⟩
 have hok : (aR s.goal).2 = true := hc14
 rw [show pL s = (s.facts ++ [(aR s.goal).1], true) from if_pos hok]
 exact .tup (.cons (.c (.whole Z (bz _).symm)) (.cons (.c .d) .nil))
def eH (ts : List Tm) (n : Int) : Bool := ts.all Tm.ok && decide ((ts.length : Int) ≤ n)
def dA (s : Sq) : Bool := eH s.facts 13 && s.goal.ok
def co (x : Int) : Bool := decide (0 ≤ x) && decide (x ≤ 1000000)
def yZ (xs : List Int) : Bool := xs.all co && decide ((xs.length : Int) ≤ 20)
def rY (n : Nd) : Bool := if n.kind = 1 then (decide (n.fact = 0) && n.term.zero) && yZ n.mul else if n.kind = 2 then (decide (n.fact = 0) && n.term.ok) && decide ((n.mul.length : Int) = 0) else if n.kind = 3 then (j0 0 19 n.fact && n.term.zero) && decide ((n.mul.length : Int) = 0) else false
def dl (k : Int) : Int := if k = 1 then -1 else if k = 2 then 1 else 0
def Be : List Nd → Int → Option Nat
  | [], need => if need ≤ 0 then some 0 else none
  | s :: r, need => if need ≤ 0 then some 0 else (Be r (need + dl s.kind)).map (· + 1)
def DX (p : List Nd) (k : Nat) : Int := match Be (p.drop k) 1 with
  | some n => k + n
  | none => -1
def AQ (p : List Nd) (k : Nat) : Nat → Int × Bool
  | 0 => (-1, false)
  | i + 1 => if (p.getD i default).kind = 1 ∨ DX p i ≤ k then AQ p k i else (i, decide (i + 1 = k))
theorem Ej : MQ h1 h2 135 [bN ts, eI n] [] (Plain (eB (eH ts n))) := by
 refine aA ?_ Z
 refine jB 21 h1 h2 Tryz.func135 Z Z Z fun O hF => ?_
 have hl : ts.length ≤ L := by simpa [As.fact, A.fact, M.fact, D.fact, Ds.fact] using hF.1.1
 refine ah (js O Z (jn (ag (ah (js O Z (jn (ao (aq (X := Nat) (fun i => ⟨[(0, bN ts), (1, eI n), (5, eI i)], []⟩) (fun i => i ≤ ts.length ∧ ∀ j (h : j < ts.length), j < i → Tm.ok ts[j] = true) (fun i => ts.length - i) 0 (Ent.env ⟨Z, Z, Z, trivial⟩) ?_ (fun i hi => ?_)))))))))
 exact ⟨ct _, fun j h hj => absurd hj (Nat.not_lt_zero j)⟩
 refine ag (ah (j2 O Z Z (cu O Z (js O Z (jn (ae O Z Z (fun hc9 => ?_) (fun hc9 => ?_)))))))
 try simp only [aT] at hc9
 refine aj (ag (ao (ah (j2 O Z Z (lz O Z Z (ap O Z Z Z Z (xm h1 h2) (aa Z) Z Z Z Z Z (B0 := 16000) Z (js O Z (jn (ae O Z Z (fun hc16 => ?_) (fun hc16 => ?_))))))))))
 try simp only [aT] at hc16
 refine ah (js O Z (jr ?_))
 refine ⟨.inl Z, _, am, _, Z, ?_⟩
 rw [Int.toNat_natCast, ax (by omega)] at hc16
 rw [eH, gD i (by omega) hc16, Bool.false_and]
 try simp only [aT] at hc16
 refine aj (ak (js O Z (ji O Z (js O Z (jn ?_)))))
 refine ⟨i + 1, Ent.env ⟨Z, Z, Z, trivial⟩, ⟨by omega, fun j h hj => ?_⟩, by omega⟩
 by_cases e : j = i
 subst e; rw [Int.toNat_natCast, ax h] at hc16; exact hc16
 exact hi.2 j h (by omega)
 try simp only [aT] at hc9
 refine aO (ah (js O Z (cu O Z (j3 O Z Z Z (jr ?_)))))
 refine ⟨.inl Z, _, am, _, Z, ?_⟩
 rw [eH, ii (fun j hj => hi.2 j hj (by omega)), Bool.true_and]
theorem c82 {s : Sq} : MQ h1 h2 92 [ptr s.cells] [] (Plain (eB (dA s))) := by
 refine aA ?_ Z
 refine jB 14 h1 h2 Tryz.func92 Z Z Z fun O hF => ?_
 refine ah (js O Z (aV (j4 O Z Z Z Z (bp [(6, _), (2, _), (0, _)] [] ⟨Z, Z, Z, trivial⟩ Z (ap O Z Z Z Z (Ej h1 h2) (aa Z) Z Z Z Z Z (B0 := 8000) Z (js O Z (bp [(8, _), (2, _), (0, _)] [] ⟨Z, Z, Z, trivial⟩ Z (az 4 Z Z Z (fun hx => ab hx Z Z Z (V O Z) Z Z ( ab hx Z Z Z (V O Z) Z Z ( ab hx Z Z Z (V O Z) Z Z ( bv O hx Z Z Z Z (xm (t := s.goal) h1 h2) (.cons (.c (.sub Z)) .nil) Z Z Z Z Z Z Z (B0 := 13000) Z ( AN.nil))))) Z Z (ac (aC O Z Z Z Z Z) Z Z Z (js O Z (jf [2] Z (jr ?_))))))))))))
 refine ⟨.inl Z, _, am, _, Z, ?_⟩
 rw [Bool.cond_false_right]; rfl
def bk (xs : List Int) : Nat := xs.foldl (fun g x => Nat.gcd g x.natAbs) 0
theorem jT {xs : List Int} {i : Nat} (h : i < xs.length) : bk (xs.take (i + 1)) = Nat.gcd (bk (xs.take i)) (xs.getD i default).natAbs := by
 rw [List.take_succ_eq_append_getElem h, bk, List.foldl_append, ax h]; rfl
theorem nb {xs : List Int} (h : xs.all num = true) : ∀ {i : Nat}, i ≤ xs.length → bk (xs.take i) ≤ 1000000
 | 0, _ => by simp [bk]
 | i + 1, hi => by
  rw [jT (by omega)]
  have ih := nb h (i := i) (by omega)
  have hx := Db.1 (List.all_eq_true.1 h _ (List.getElem_mem (show i < xs.length by omega)))
  rw [← ax (by omega)] at hx
  by_cases h0 : (xs.getD i default).natAbs = 0
  rw [h0, Nat.gcd_zero_right]; exact ih
  have := Nat.gcd_le_right (bk (xs.take i)) (Nat.pos_of_ne_zero h0)
  omega
def mx (a b : Int) : Int := if a > b then a else b
theorem vP (x : Int) : mx x (0 - x) = (x.natAbs : Int) := by unfold mx; split <;> omega
def bS (t : Tm) : Tm × Bool := if bk t.xs < 2 then (⟨0, []⟩, false) else
  oo (if t.c.tmod (bk t.xs) < 0 then t.c.tdiv (bk t.xs) - 1 else t.c.tdiv (bk t.xs)) (t.xs.map fun x => x.tdiv (bk t.xs))
theorem dN {a b : Int} (h : -1000000 ≤ a ∧ a ≤ 1000000) : -1000000 ≤ a.tdiv b ∧ a.tdiv b ≤ 1000000 := by
 have h1 : (a.tdiv b).natAbs ≤ a.natAbs := by rw [Int.natAbs_tdiv]; exact Nat.div_le_self _ _
 omega
theorem gq {a b : Int} (h : -1000000 ≤ a ∧ a ≤ 1000000) : -1000000 ≤ a.tmod b ∧ a.tmod b ≤ 1000000 := by
 have h1 : (a.tmod b).natAbs ≤ a.natAbs := by rw [Int.natAbs_tmod]; exact Nat.mod_le _ _
 omega
def Aw (n : Nd) (ctx : List Tm) (first : Bool) : List Tm := if n.kind = 3 then ctx ++ [(bS (ctx.getD n.fact.toNat default)).1] else if first = true then ctx ++ [n.term] else ctx ++ [(aR n.term).1]
def cO (f : Tm → Int) : List Tm → List Int → Int
  | t :: ts, m :: ms => m * f t + cO f ts ms
  | _, _ => 0
theorem fR {f : Tm → Int} : ∀ {ts : List Tm} {ms : List Int} {i : Nat}, i < ts.length → i < ms.length → cO f (ts.take (i + 1)) (ms.take (i + 1)) = cO f (ts.take i) (ms.take i) + ms.getD i default * f (ts.getD i default)
 | [], _, i, h, _ => by simp at h
 | _ :: _, [], i, _, h => by simp at h
 | x :: xs, y :: ys, 0, _, _ => by simp [cO]
 | x :: xs, y :: ys, i + 1, h1, h2 => by
  have := fR (f := f) (ts := xs) (ms := ys) (i := i) (by simpa using h1) (by simpa using h2)
  simp only [List.take_succ_cons, cO, List.getD_cons_succ] at this ⊢
  omega
theorem im {f : Tm → Int} {ts : List Tm} {ms : List Int} (hf : ∀ t ∈ ts, num (f t) = true) (hm : ms.all num = true) : ∀ {i : Nat}, i ≤ ts.length → i ≤ ms.length → -(i * 1000000000000 : Int) ≤ cO f (ts.take i) (ms.take i) ∧ cO f (ts.take i) (ms.take i) ≤ i * 1000000000000
 | 0, _, _ => by simp [cO]
 | i + 1, h1, h2 => by
  have ih := im hf hm (i := i) (by omega) (by omega)
  rw [fR (by omega) (by omega)]
  have a1 := hf _ (List.getElem_mem (show i < ts.length by omega))
  have a2 := List.all_eq_true.1 hm _ (List.getElem_mem (show i < ms.length by omega))
  have := dZ a2 a1
  rw [ax (by omega), ax (by omega)]
  omega
abbrev qK (k : Nat) : Tm → Int := fun t => t.xs.getD k 0
def cx (ts : List Tm) (ms : List Int) : List Int := (List.range 10).map fun k => cO (qK k) ts ms
def xR (ctx : List Tm) (ms : List Int) : Bool := decide (ctx.length = ms.length) && ((cx ctx ms).all (fun x => decide (x = 0)) && decide (cO Tm.c ctx ms < 0))
def vG (n : Nd) (ctx : List Tm) : Bool := if n.kind = 1 then xR ctx n.mul else if 20 ≤ ctx.length then false else if n.kind = 2 then (aR n.term).2 else if n.fact ≥ ctx.length then false else (bS (ctx.getD n.fact.toNat default)).2

theorem Bg {a b : Int} : MQ h1 h2 202 [eI a, eI b] [] (Plain (eI (mx a b))) := by
 refine aA ?_ Z
 refine jB 10 h1 h2 Tryz.func202 Z Z Z fun O hF => ?_
 refine ah (js O Z (jn (ag (ah (j3 O Z Z Z (jn (ae O Z Z (fun hc7 => ?_) (fun hc7 => ?_))))))))
 try simp only [aT] at hc7
 refine ah (j2 O Z Z (jr ?_))
 refine ⟨.inl Z, _, am, _, Z, ?_⟩
 rw [mx, if_pos hc7]
 try simp only [aT] at hc7
 refine aj (ah (j2 O Z Z (jr ?_)))
 refine ⟨.inl Z, _, am, _, Z, ?_⟩
 rw [mx, if_neg (by omega)]
theorem va (ht : t.xs.all num = true) : MQ h1 h2 180 [ptr t.cells] [] (Plain (eI (bk t.xs))) := by
 refine aA ?_ Z
 refine jB 40 h1 h2 Tryz.func180 Z Z Z fun O hF => ?_
 have hl : t.xs.length ≤ L := by simpa [As.fact, A.fact, M.fact, D.fact, Ds.fact] using hF.1.2.1.1
 refine ah (js O Z (aV (js O Z (jn (ag (ah (js O Z (jn (ao (aq (X := Nat) (fun i => ⟨[(0, ptr t.cells), (3, eI (bk (t.xs.take i))), (4, eI i)], []⟩) (fun i => i ≤ t.xs.length) (fun i => t.xs.length - i) 0 (Ent.env ⟨Z, Z, Z, trivial⟩) ?_ (fun i hi => ?_)))))))))))
 exact ct _
 refine ag (ah (j4 O Z Z Z Z (js O Z (cu O Z (js O Z (jf [13,0,3,4] Z (jn (ae O Z Z (fun hc13 => ?_) (fun hc13 => ?_)))))))))
 try simp only [aT] at hc13
 refine aj (ag (ao (ag ?_)))
 have hi0 := hi
 have hx := Db.1 (List.all_eq_true.1 ht _ (List.getElem_mem (show i < t.xs.length by omega)))
 rw [← ax (by omega)] at hx
 have hgs := jT (xs := t.xs) (i := i) (by omega)
 have hgl := nb ht hi
 have hmx := vP (t.xs.getD i default)
 refine gL O [_,_,_,_,_,_,_,_,_,_,_,_,_,_,_,_,_] [pn [] 0 0, pn [0] 0 0, pn [0,1] 0 0, pn [0,1,2] 0 0, pn [] 0 0, pn (rg 0 5) 0 0, pn (rg 0 6) 0 0, pn [] 0 0, pn [7] 0 0, pn [7,8] 0 0, pn [7,8,9] 0 0, pn [] 0 0, pn (rg 7 5) 0 0, pn (rg 7 6) 0 0, pn (rg 7 7) 0 0, pe (rg 0 15) 0, pn (rg 0 16) 1 1] [15] [_,_] (kc O Z (kc O Z (kc O Z (kc O Z (kc O Z (ai (vD O Z) (kc O Z (kc O Z (kc O Z (kc O Z (kc O Z (kc O Z (ai (vD O Z) (kc O Z (ai (cz O Z Z (by rw [Int.toNat_natCast]; omega) (by rw [Int.toNat_natCast]; omega)) (ai (bw O (B0 := 32000) Z Z Z Z ((Bg (a := t.xs.getD ((i : Int)).toNat default) (b := 0 - t.xs.getD ((i : Int)).toNat default) h1 h2).plain (u := eI ((t.xs.getD i default).natAbs)) (by rw [Int.toNat_natCast, hmx])) (aa Z) Z Z Z Z Z) (kc O Z trivial))))))))))))))))) ?_
 refine jw [5,13,0,3,4] Z (b9 ?_)
 refine ao (aq (X := Nat × Nat) (fun z => ⟨[(0, ptr t.cells), (3, eI z.1), (4, eI i), (5, eI z.2)], []⟩) (fun z => Nat.gcd z.1 z.2 = Nat.gcd (bk (t.xs.take i)) (t.xs.getD i default).natAbs ∧ z.1 ≤ 1000000 ∧ z.2 ≤ 1000000) (fun z => z.2) (bk (t.xs.take i), (t.xs.getD i default).natAbs) (Ent.env ⟨Z, Z, Z, Z, trivial⟩) ?_ (fun z hi => ?_))
 exact ⟨Z, hgl, by show (t.xs.getD i default).natAbs ≤ 1000000; omega⟩
 have hz := gq (a := z.1) (b := z.2) (by omega)
 refine ag (ah (j2 O Z Z (jn (ae O Z Z (fun hc33 => ?_) (fun hc33 => ?_)))))
 try simp only [aT] at hc33
 refine aj (ao (ah (j2 O Z Z (ac (vR O Z Z Z Z) Z Z Z (js O Z (jf [6,33,32,0,3,4,5] Z (aV (j2 O Z Z (jn (ak (j2 O Z Z (jf [5,3,37,33,32,0,4] Z (jn ?_)))))))))))))
 have hm : z.1 % z.2 < z.2 := Nat.mod_lt _ (by omega)
 refine ⟨(z.2, z.1 % z.2), Ent.env ⟨Z, Z, Z, Z, trivial⟩, ⟨?_, hi.2.2, by show z.1 % z.2 ≤ 1000000; omega⟩, hm⟩
 show Nat.gcd z.2 (z.1 % z.2) = _
 rw [← hi.1, Nat.gcd_comm z.2, ← Nat.gcd_rec, Nat.gcd_comm]
 try simp only [aT] at hc33
 refine aO (ak (js O Z (ji O Z (js O Z (jf [4,33,32,0,3,5] Z (jn ?_))))))
 have hz0 : z.2 = 0 := by omega
 have hz1 : z.1 = bk (t.xs.take (i + 1)) := by rw [hgs, ← hi.1, hz0, Nat.gcd_zero_right]
 rw [hz1]
 exact ⟨i + 1, Ent.env ⟨Z, Z, Z, trivial⟩, by omega, by omega⟩
 try simp only [aT] at hc13
 refine aO (ah (j2 O Z Z (jr ?_)))
 refine ⟨.inl Z, _, am, _, Z, ?_⟩
 obtain rfl : i = t.xs.length := by omega
 rw [List.take_length]
theorem Eb (ht : Small t) : MQ h1 h2 198 [ptr t.cells] [] (Plain (gn (bS t))) := by
 refine MC.data (jB 55 h1 h2 Tryz.func198 Z Z Z fun O hF => ?_)
 have hl : t.xs.length ≤ L := by simpa [As.fact, A.fact, M.fact, D.fact, Ds.fact] using hF.1.2.1.1
 refine ah (jl O Z (js O Z (aV (js O Z (ap O Z Z Z Z (va (t := t) h1 h2 ht.xs) (aa Z) Z Z Z Z Z (B0 := 10000) Z (js O Z (jf [4,3,2,0] Z (jn (ag (ah (j2 O Z Z (jn (ae O Z Z (fun hc11 => ?_) (fun hc11 => ?_))))))))))))))
 try simp only [aT] at hc11
 refine ah (js O Z (jf [12,10,4,3,2,0] Z (jo O Z (js O Z (jr ?_)))))
 refine ⟨.inl Z, _, am, _, Z, ?_⟩
 rw [show bS t = (⟨0, []⟩, false) from if_pos (by omega)]
 exact .tup (.cons (.agg (.cons .d (.cons .nils .nil))) (.cons (.c .d) .nil))
 try simp only [aT] at hc11
 refine aj (ah ?_)
 obtain ⟨g, hg⟩ : ∃ g : Int, g = (bk t.xs : Int) := ⟨_, rfl⟩
 rw [← hg]
 rw [← hg] at hc11
 refine AOps.heap (bA O Z Z Z) Z (js O Z (jf [5,10,4,3,2,0] Z (jn (ag (ah (js O Z (jn (ao (aq (X := Nat) (fun i => ⟨[(0, ptr t.cells), (2, .c (.pt 2 0 0)), (4, eI g), (5, .c (.rs 900 0 i)), (6, eI i)], [(2, .box [.d (.int .i64 0), .d .nils]), (900, aX ((t.xs.map fun x => x.tdiv g).take i))]⟩) (fun i => i ≤ t.xs.length) (fun i => t.xs.length - i) 0 ((af 13 900 Z Z).trans (Ent.to ⟨Z, Z, Z, Z, Z, trivial⟩ Z)) ?_ (fun i hi => ?_))))))))))
 exact ct _
 refine ag (ah (j4 O Z Z Z Z (js O Z (cu O Z (js O Z (jf [20,0,2,4,5,6] Z (jn (ae O Z Z (fun hc20 => ?_) (fun hc20 => ?_)))))))))
 try simp only [aT] at hc20
 refine aj (ag (ao (ak ?_)))
 have hx := dN (b := g) (Db.1 (List.all_eq_true.1 ht.xs _ (List.getElem_mem (show i < t.xs.length by omega))))
 rw [← ax (by omega)] at hx
 refine j4 O Z Z Z Z (j2 O Z Z (lz O Z Z (j2 O Z Z (ac (e8 O Z Z Z Z (by omega) (by rw [Int.toNat_natCast]; omega) (by rw [Int.toNat_natCast]; omega)) Z Z Z (jf [32,23,20,0,2,4,5,6] Z (AOps.heap (bA O Z Z Z) Z (jf [33,23,20,0,2,4,5,6] Z (AOps.heap (cm (zs := ((t.xs.map fun x => x.tdiv g).take (i + 1)).map fun n => [.int .i64 n]) (n := i + 1) O Z Z Z Z Z Z Z Z Z Z Z Z Z Z Z Z (.row Z (by simp; omega)) Z Z (by decide) Z (by simp; omega) (by simp; omega) (by rw [List.take_succ_eq_append_getElem (by simp; omega), List.map_append, List.getElem_map, Int.toNat_natCast, ax (by omega)]; rfl) (by simp; omega)) Z (js O Z (jf [5,20,0,2,4,6] Z (jn (ak (js O Z (ji O Z (js O Z (jf [6,5,20,0,2,4] Z (jn ?_)))))))))))))))))
 refine ⟨i + 1, ((aw [2,34] (e' := [(0, _), (2, _), (4, _), (5, _), (6, _)]) Z Z ⟨Z, Z, Z, Z, Z, trivial⟩ Z).trans (af 34 900 Z Z)), by omega, by omega⟩
 try simp only [aT] at hc20
 refine aO (ah ?_)
 have hc0 := Db.1 ht.c
 have hq := dN (b := g) hc0
 have hr := gq (b := g) hc0
 obtain rfl : i = t.xs.length := by omega
 rw [List.take_of_length_le (by simp)]
 refine ay (Ent.freeze 900 (e' := [(2, _), (4, _), (5, _), (0, _)]) Z (.cons Z (.keep Z) (.cons Z (.keep Z) (.cons Z (.c (.row Z (by simp))) (fe [0] Z)))) (.cons Z (.box (fk Z)) (.skip .nil))) ?_
 refine j4 O Z Z Z Z (js O Z (ac (vQ O Z Z Z Z) Z Z Z (js O Z (jf [7,2,4,5,0] Z (jn (ag (ah (j4 O Z Z Z Z (js O Z (ac (vR O Z Z Z Z) Z Z Z (js O Z (jf [47,7,2,4,5,0] Z (jn (ae O Z Z (fun hc47 => ?_) (fun hc47 => ?_)))))))))))))))
 try simp only [aT] at hc47
 refine ak (js O Z (ji O Z (js O Z (jf [7,47,2,4,5,0] Z (aV (j2 O Z Z (ar O Z Z Z Z (qL (c := _) (xs := t.xs.map fun x => x.tdiv g) h1 h2) (aa Z) Z Z Z Z (B0 := 53000) Z Z (j2 O Z Z (jf [54,53,7,47,2,4,5,0] Z (jo O Z (js O Z (jf [3,7,47,2,4,5,0] Z (jr ?_)))))))))))))
 refine ⟨.inl Z, _, am, _, Z, ?_⟩
 rw [show bS t = oo (t.c.tdiv g - 1) (t.xs.map fun x => x.tdiv g) by rw [hg, bS, if_neg (by omega), if_pos (by rw [← hg]; exact hc47)]]
 exact .tup (.cons (.agg (aE Z)) (.cons (.c .d) .nil))
 try simp only [aT] at hc47
 refine aj (ah (j2 O Z Z (ar O Z Z Z Z (qL (c := _) (xs := t.xs.map fun x => x.tdiv g) h1 h2) (aa Z) Z Z Z Z (B0 := 53000) Z Z (j2 O Z Z (jf [54,53,47,7,2,4,5,0] Z (jo O Z (js O Z (jf [3,47,7,2,4,5,0] Z (jr ?_)))))))))
 refine ⟨.inl Z, _, am, _, Z, ?_⟩
 rw [show bS t = oo (t.c.tdiv g) (t.xs.map fun x => x.tdiv g) by rw [hg, bS, if_neg (by omega), if_neg (by rw [← hg]; omega)]]
 exact .tup (.cons (.agg (aE Z)) (.cons (.c .d) .nil))
def eF (ts : List Tm) (ms : List Int) (i j : Nat) : List Int := (List.range 10).map fun k => cO (qK k) (ts.take i) (ms.take i) + (if k < j then ms.getD i default * (ts.getD i default).xs.getD k 0 else 0)
theorem dI {ts ms i j} : (eF ts ms i j).length = 10 := by simp [eF]
theorem l3 {ts ms i} : eF ts ms i 0 = cx (ts.take i) (ms.take i) := by simp [eF, cx]
theorem kW {ts ms i j} (h : j < 10) : (eF ts ms i j).getD j default = cO (qK j) (ts.take i) (ms.take i) := by
 rw [ax (by rw [dI]; exact h)]
 simp [eF]
theorem l4 {ts ms i j} (h : j < 10) : (eF ts ms i j).set j ((eF ts ms i j).getD j default + ms.getD i default * (ts.getD i default).xs.getD j default) = eF ts ms i (j + 1) := by
 rw [kW h]
 apply List.ext_getElem?
 intro k
 rw [List.getElem?_set]
 by_cases hk : k < 10
 by_cases e : j = k
 subst e
 rw [if_pos Z, if_pos (by rw [dI]; exact h)]
 simp [eF, h]
 rw [if_neg e]
 have h3 : (k < j + 1) = (k < j) := by apply propext; omega
 simp only [eF, List.getElem?_map, List.getElem?_range hk, Option.map_some, h3]
 have h1 : (eF ts ms i j)[k]? = none := List.getElem?_eq_none (by rw [dI]; omega)
 have h2 : (eF ts ms i (j + 1))[k]? = none := List.getElem?_eq_none (by rw [dI]; omega)
 rw [if_neg (by omega), h1, h2]
theorem nz {ts ms i j} (h1 : i < ts.length) (h2 : i < ms.length) (h : (ts.getD i default).xs.length ≤ j) : eF ts ms i j = cx (ts.take (i + 1)) (ms.take (i + 1)) := by
 unfold eF cx
 apply List.map_congr_left
 intro k hk
 rw [fR h1 h2]
 by_cases e : k < j
 rw [if_pos e]
 rw [if_neg e]
 show _ + 0 = _ + _ * (ts.getD i default).xs.getD k 0
 rw [show (ts.getD i default).xs.getD k 0 = 0 by rw [List.getD_eq_getElem?_getD, List.getElem?_eq_none (by omega)]; rfl, Int.mul_zero]
theorem iy {ts ms} : (cx ts ms).length = 10 := by simp [cx]
structure CtxOk (ctx : List Tm) : Prop where
  ok : ∀ t ∈ ctx, t.ok = true
  len : ctx.length ≤ 1000
theorem CtxOk.get {ctx : List Tm} (h : CtxOk ctx) {i : Nat} (hi : i < ctx.length) : (ctx.getD i default).ok = true := by rw [ax hi]; exact h.ok _ (List.getElem_mem hi)
end Go.Al
