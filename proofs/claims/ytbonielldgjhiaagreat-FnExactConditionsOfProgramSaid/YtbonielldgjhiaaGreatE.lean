/- Programs and their validity; the reference's functions for cB. -/
import Derived.Test.YtbonielldgjhiaaGreatD
set_option linter.unusedVariables false
set_option linter.unusedSimpArgs false
set_option maxRecDepth 10000
open Go.Proofs
namespace Go.Al
variable {L : Nat} (h1 : 4096 ≤ L) (h2 : L ≤ 1073741824)
def Tm.term (t : Tm) : Bool := t.ok && decide ((t.xs.length : Int) ≤ 4)
def cB (ts : List Tm) (n : Int) : Bool := ts.all Tm.term && decide ((ts.length : Int) ≤ n)
def bh (k : Int) : Int := if k = 1 then 2 else if k = 7 then 2 else if k = 8 then 1 else 0
def dI : List Sm → Int → Option Nat
  | [], need => if need ≤ 0 then some 0 else none
  | s :: r, need => if need ≤ 0 then some 0 else (dI r (need + (bh s.kind - 1))).map (· + 1)
def mH (body : List Sm) (k : Nat) : Int := match dI (body.drop k) 1 with
  | some n => k + n
  | none => -1
def Tm.zero (t : Tm) : Bool := decide (t.c = 0) && decide ((t.xs.length : Int) = 0)

theorem sZ {t : Tm} : MQ h1 h2 66 [ptr t.cells] [] (Plain (eB t.term)) := by
 refine av ?_ Z
 refine jB 13 h1 h2 Tryz.func66 Z Z Z fun O hF => ?_
 refine ag (js O Z (aP (js O Z (ae O Z Z Z Z (rP h1 h2) (ab Z) Z Z Z Z Z (B0 := 5000) Z (js O Z (au 6 Z Z Z (fun hx => ac hx Z Z Z (V O Z) Z Z ( ac hx Z Z Z (V O Z) Z Z ( ac hx Z Z Z (V O Z) Z Z ( ac hx Z Z Z (V O Z) Z Z ( ac hx Z Z Z (cU O Z Z Z Z Z Z Z Z) Z Z ( ac hx Z Z Z (V O Z) Z Z ( AN.nil))))))) Z Z ?_))))))
 first | refine aa (ak O Z Z Z Z Z) Z Z Z ?_ | refine aa (aj O Z Z Z Z Z) Z Z Z ?_ | refine aa (Val.pickB O Z Z Z Z Z) Z Z Z ?_
 refine js O Z (jn (AWP.ret ?_))
 refine ⟨.inl Z, _, Ent.refl, _, Z, ?_⟩
 rw [Bool.cond_false_right]; rfl
theorem s5 {ts : List Tm} {n : Int} : MQ h1 h2 47 [cr ts, eI n] [] (Plain (eB (cB ts n))) := by
 refine av ?_ Z
 refine jB 21 h1 h2 Tryz.func47 Z Z Z fun O hF => ?_
 have hl : ts.length ≤ L := by simpa [As.fact, A.fact, M.fact, D.fact, Ds.fact] using hF.1.1
 refine ag (js O Z (jn (AWP.seq (ag (js O Z (jn (AWP.block (az (X := Nat) (fun i => ⟨[(0, cr ts), (1, eI n), (5, eI i)], []⟩) (fun i => i ≤ ts.length ∧ ∀ j (h : j < ts.length), j < i → Tm.term ts[j] = true) (fun i => ts.length - i) 0 (Ent.env ⟨Z, Z, Z, trivial⟩) ?_ (fun i hi => ?_)))))))))
 exact ⟨Nat.zero_le _, fun j h hj => absurd hj (Nat.not_lt_zero j)⟩
 refine AWP.seq (ag (j2 O Z Z ?_))
 first | refine cy O Z Z Z Z Z Z Z Z Z Z Z ?_ | refine js O Z ?_ | refine aY O Z Z Z Z Z ?_
 refine js O Z (jn (AWP.cond O Z Z (fun hc9 => ?_) (fun hc9 => ?_)))
 try simp only [bg] at hc9
 refine AWP.skip (AWP.seq (AWP.block (ag (j2 O Z Z ?_))))
 first | refine dR O Z Z Z Z Z Z Z Z Z Z Z ?_ | refine aY O Z Z Z Z Z ?_
 refine ae O Z Z Z Z (sZ h1 h2) (ab Z) Z Z Z Z Z (B0 := 16000) Z (js O Z (jn (AWP.cond O Z Z (fun hc16 => ?_) (fun hc16 => ?_))))
 try simp only [bg] at hc16
 refine ag (js O Z (jn (AWP.ret ?_)))
 refine ⟨.inl Z, _, Ent.refl, _, Z, ?_⟩
 rw [Int.toNat_natCast, aI (by omega)] at hc16
 rw [cB, fh i (by omega) hc16, Bool.false_and]
 try simp only [bg] at hc16
 refine AWP.skip (AWP.region (js O Z ?_))
 first | refine ji O Z ?_ | refine aY O Z Z Z Z Z ?_
 refine js O Z (jn ?_)
 refine ⟨i + 1, Ent.env ⟨Z, Z, Z, trivial⟩, ⟨by omega, fun j h hj => ?_⟩, by omega⟩
 by_cases e : j = i
 subst e; rw [Int.toNat_natCast, aI h] at hc16; exact hc16
 exact hi.2 j h (by omega)
 try simp only [bg] at hc9
 refine AWP.exit (ag (js O Z ?_))
 first | refine cy O Z Z Z Z Z Z Z Z Z Z Z ?_ | refine js O Z ?_ | refine aY O Z Z Z Z Z ?_
 refine j3 O Z Z Z (jn (AWP.ret ?_))
 refine ⟨.inl Z, _, Ent.refl, _, Z, ?_⟩
 rw [cB, fP (fun j hj => hi.2 j hj (by omega)), Bool.true_and]
theorem cm (k : Int) : 0 ≤ bh k ∧ bh k ≤ 2 := by unfold bh; split; decide; split; decide; split <;> decide
theorem go {l : List Sm} {n : Int} (h : n ≤ 0) : dI l n = some 0 := by cases l <;> simp [dI, h]
theorem kA {n : Int} (h : 0 < n) : dI [] n = none := by simp [dI]; omega
theorem nf {l : List Sm} {n : Int} (h : 0 < n) {k : Nat} (hk : k < l.length) : dI (l.drop k) n = (dI (l.drop (k + 1)) (n + (bh (l.getD k default).kind - 1))).map (· + 1) := by
 rw [List.drop_eq_getElem_cons hk, aI hk]
 show (if n ≤ 0 then some 0 else _) = _
 rw [if_neg (by omega)]
theorem w3 {k : Int} : MQ h1 h2 95 [eI k] [] (Plain (eI (bh k))) := by
 refine av ?_ Z
 refine jB 9 h1 h2 Tryz.func95 Z Z Z fun O hF => ?_
 refine ag (js O Z (jn (AWP.seq (ag (js O Z (jn (AWP.block (AWP.seq (ag (j2 O Z Z (jn (AWP.cond O Z Z (fun hc4 => ?_) (fun hc4 => ?_)))))))))))))
 try simp only [bg] at hc4
 refine AWP.skip (AWP.cond O Z Z (fun hc4 => ?_) (fun hc4 => ?_))
 try simp only [bg] at hc4
 refine ag (js O Z (jn (AWP.ret ?_)))
 refine ⟨.inl Z, _, Ent.refl, _, Z, ?_⟩
 simp_all [bh]
 try simp only [bg] at hc4
 refine ag (j2 O Z Z (jn (AWP.cond O Z Z (fun hc7 => ?_) (fun hc7 => ?_))))
 try simp only [bg] at hc7
 refine ag (js O Z (jn (AWP.ret ?_)))
 refine ⟨.inl Z, _, Ent.refl, _, Z, ?_⟩
 simp_all [bh]
 try simp only [bg] at hc7
 refine AWP.skip (ag (js O Z (jn (AWP.ret ?_))))
 refine ⟨.inl Z, _, Ent.refl, _, Z, ?_⟩
 simp_all [bh]
 try simp only [bg] at hc4
 refine AWP.region (j2 O Z Z (jn (AWP.cond O Z Z (fun hc4 => ?_) (fun hc4 => ?_))))
 try simp only [bg] at hc4
 refine ag (js O Z (jn (AWP.ret ?_)))
 refine ⟨.inl Z, _, Ent.refl, _, Z, ?_⟩
 simp_all [bh]
 try simp only [bg] at hc4
 refine ag (j2 O Z Z (jn (AWP.cond O Z Z (fun hc7 => ?_) (fun hc7 => ?_))))
 try simp only [bg] at hc7
 refine ag (js O Z (jn (AWP.ret ?_)))
 refine ⟨.inl Z, _, Ent.refl, _, Z, ?_⟩
 simp_all [bh]
 try simp only [bg] at hc7
 refine AWP.skip (ag (js O Z (jn (AWP.ret ?_))))
 refine ⟨.inl Z, _, Ent.refl, _, Z, ?_⟩
 simp_all [bh]
theorem uU {t : Tm} : MQ h1 h2 94 [ptr t.cells] [] (Plain (eB t.zero)) := by
 refine av ?_ Z
 refine jB 16 h1 h2 Tryz.func94 Z Z Z fun O hF => ?_
 refine ag (js O Z (aP (j4 O Z Z Z Z (j2 O Z Z (au 6 Z Z Z (fun hx => ac hx Z Z Z (V O Z) Z Z ( ac hx Z Z Z (V O Z) Z Z ( ac hx Z Z Z (V O Z) Z Z ( ac hx Z Z Z (V O Z) Z Z ( ac hx Z Z Z (cU O Z Z Z Z Z Z Z Z) Z Z ( ac hx Z Z Z (V O Z) Z Z ( AN.nil))))))) Z Z ?_)))))
 first | refine aa (ak O Z Z Z Z Z) Z Z Z ?_ | refine aa (aj O Z Z Z Z Z) Z Z Z ?_ | refine aa (Val.pickB O Z Z Z Z Z) Z Z Z ?_
 refine js O Z (jn (AWP.ret ?_))
 refine ⟨.inl Z, _, Ent.refl, _, Z, ?_⟩
 rw [Bool.cond_false_right]; rfl
theorem w9 {body : List Sm} {k : Nat} (hk : k ≤ body.length) : MQ h1 h2 68 [.c (.d (eZ body)), eI k] [] (Plain (eI (mH body k))) := by
 refine av ?_ Z
 refine jB 24 h1 h2 Tryz.func68 Z Z Z fun O hF => ?_
 have hl : body.length ≤ L := by simpa [As.fact, A.fact, M.fact, D.fact, Ds.fact] using hF.1.1
 refine ag (js O Z (aP (js O Z (jn (AWP.seq (AWP.block (az (X := Int × Nat) (fun x => ⟨[(0, .c (.d (eZ body))), (1, eI (k + x.2)), (5, eI x.1)], []⟩) (fun x => k + x.2 ≤ body.length ∧ (dI (body.drop k) 1 = (dI (body.drop (k + x.2)) x.1).map (· + x.2)) ∧ 0 ≤ x.1 ∧ x.1 ≤ x.2 + 1) (fun x => body.length - (k + x.2)) (1, 0) (Ent.env ⟨Z, by simp [bL, ar], Z, trivial⟩) ?_ (fun x hi => ?_))))))))
 exact ⟨hk, by simp, by decide, by decide⟩
 refine AWP.seq (ag (j2 O Z Z (jn (AWP.cond O Z Z (fun hc7 => ?_) (fun hc7 => ?_)))))
 try simp only [bg] at hc7
 refine AWP.skip (AWP.block (AWP.seq (ag (j2 O Z Z ?_))))
 first | refine cy O Z Z Z Z Z Z Z Z Z Z Z ?_ | refine js O Z ?_ | refine aY O Z Z Z Z Z ?_
 refine js O Z (jn (AWP.cond O Z Z (fun hc11 => ?_) (fun hc11 => ?_)))
 try simp only [bg] at hc11
 refine ag (js O Z (jn (AWP.ret ?_)))
 refine ⟨.inl Z, _, Ent.refl, _, Z, ?_⟩
 have e : k + x.2 = body.length := by omega
 rw [mH, hi.2.1, List.drop_of_length_le (by omega), kA hc7]; rfl
 try simp only [bg] at hc11
 refine AWP.skip (ag (j3 O Z Z Z ?_))
 first | refine dR O Z Z Z Z Z Z Z Z Z Z Z ?_ | refine aY O Z Z Z Z Z ?_
 refine j2 O Z Z (ae O Z Z Z Z (w3 h1 h2) (ab Z) Z Z Z Z Z (B0 := 19000) Z ?_)
 have hb := cm (body.getD ((k : Int) + x.2).toNat default).kind
 refine aa (bc O Z Z (by omega) (by omega)) Z Z Z ?_
 first | refine ji O Z ?_ | refine aY O Z Z Z Z Z ?_
 refine js O Z (jn (AWP.region (js O Z ?_)))
 first | refine ji O Z ?_ | refine aY O Z Z Z Z Z ?_
 refine js O Z (jn ?_)
 have hk2 : k + x.2 < body.length := by omega
 have e := nf hc7 hk2
 rw [e, Option.map_map] at hi
 refine ⟨(x.1 + (bh (body.getD (k + x.2) default).kind - 1), x.2 + 1), Ent.env ⟨Z, ?_, Z, trivial⟩, ⟨by show k + (x.2 + 1) ≤ _; omega, ?_, ?_, ?_⟩, by show body.length - (k + (x.2 + 1)) < _; omega⟩
 exact congrArg (fun z => some (eI z)) (by show (k : Int) + x.2 + 1 = k + (x.2 + 1 : Nat); omega)
 rw [hi.2.1]; exact congrArg (fun f => Option.map f _) (funext fun n => by show n + 1 + x.2 = n + (x.2 + 1); omega)
 show 0 ≤ x.1 + (bh (body.getD (k + x.2) default).kind - 1); have := (cm (body.getD (k + x.2) default).kind).1; omega
 show x.1 + (bh (body.getD (k + x.2) default).kind - 1) ≤ (x.2 + 1 : Nat) + 1; have := (cm (body.getD (k + x.2) default).kind).2; omega
 try simp only [bg] at hc7
 refine AWP.exit (ag (j2 O Z Z (jn (AWP.ret ?_))))
 refine ⟨.inl Z, _, Ent.refl, _, Z, ?_⟩
 rw [mH, hi.2.1, go hc7]; exact congrArg eI (by show (k : Int) + x.2 = k + (0 + x.2 : Nat); omega)
def wG (s : Sm) : Bool := bif bif bif bif decide (s.kind = 2) then true else decide (s.kind = 4) then true else decide (s.kind = 6) then true else decide (s.kind = 7) then true else decide (s.kind = 8)
def wI (s : Sm) : Bool := bif decide (s.kind = 3) then true else decide (s.kind = 4)
def rJ (s : Sm) : Bool := bif decide (s.kind = 2) then true else decide (s.kind = 3)
def qh (s : Sm) : Bool := bif bif bif !(decide (0 ≤ s.kind) && decide (s.kind ≤ 8)) then true else !s.sum.term then true else !s.index.term then true else !cB s.facts 6
def uc (s : Sm) : Bool := bif bif bif !wG s then !s.sum.zero else false then true else bif !wI s then !s.index.zero else false then true else bif !decide (s.kind = 8) then decide ((0 : Int) < s.facts.length) else false
def uj (s : Sm) : Bool := bif bif rJ s then !(decide (0 ≤ s.var) && decide (s.var ≤ 3)) else false then true else bif !rJ s then !decide (s.var = 0) else false
def bB (s : Sm) : Bool := bif qh s then false else bif uc s then false else bif uj s then false else bif decide (s.kind = 5) then (decide (0 ≤ s.event) && decide (s.event ≤ 3)) else decide (s.event = 0)
def gd (b : List Sm) : Bool := (decide ((1 : Int) ≤ b.length) && decide ((b.length : Int) ≤ 30)) && (b.all bB && decide (mH b 0 = b.length))
def cC (p : Pm) : Bool := cB p.pre 6 && (gd p.body && cB p.post 6)
def v9 (x : Int) : Bool := decide (-1000000000 ≤ x) && decide (x ≤ 1000000000)
def sq (xs : List Int) (n : Int) : Bool := xs.all v9 && decide ((xs.length : Int) = n)
def xg : List Int → List Int → Int
  | x :: xs, y :: ys => x * y + xg xs ys
  | _, _ => 0
def iG (t : Tm) (vars : List Int) : Int := t.c + xg t.xs vars
theorem vQ {x : Int} : num x = true ↔ -1000000 ≤ x ∧ x ≤ 1000000 := by simp [num]
theorem w4 {s : Sm} : MQ h1 h2 67 [ptr s.cells] [] (Plain (eB (bB s))) := by
 refine av ?_ Z
 refine jB 161 h1 h2 Tryz.func67 Z Z Z fun O hF => ?_
 refine ag (js O Z (aP (j4 O Z Z Z Z (j2 O Z Z (bk [(11, _), (2, _), (0, _)] [] ⟨Z, Z, Z, trivial⟩ Z (au 5 Z Z Z (fun hx => ac hx Z Z Z (V O Z) Z Z ( ac hx Z Z Z (V O Z) Z Z ( ac hx Z Z Z (V O Z) Z Z ( ac hx Z Z Z (V O Z) Z Z ( ac hx Z Z Z (V O Z) Z Z ( AN.nil)))))) Z Z ?_))))))
 first | refine aa (aj O Z Z Z Z Z) Z Z Z ?_ | refine aa (Val.pickB O Z Z Z Z Z) Z Z Z ?_ | refine aa (ak O Z Z Z Z Z) Z Z Z ?_
 refine js O Z (bk [(18, _), (2, _), (0, _)] [] ⟨Z, Z, Z, trivial⟩ Z (au 5 Z Z Z (fun hx => ac hx Z Z Z (V O Z) Z Z ( ac hx Z Z Z (V O Z) Z Z ( ac hx Z Z Z (V O Z) Z Z ( ac hx Z Z Z (V O Z) Z Z ( ac hx Z Z Z (V O Z) Z Z ( AN.nil)))))) Z Z ?_))
 first | refine aa (aj O Z Z Z Z Z) Z Z Z ?_ | refine aa (Val.pickB O Z Z Z Z Z) Z Z Z ?_ | refine aa (ak O Z Z Z Z Z) Z Z Z ?_
 refine js O Z (bk [(25, _), (2, _), (0, _)] [] ⟨Z, Z, Z, trivial⟩ Z (au 5 Z Z Z (fun hx => ac hx Z Z Z (V O Z) Z Z ( ac hx Z Z Z (V O Z) Z Z ( ac hx Z Z Z (V O Z) Z Z ( ac hx Z Z Z (V O Z) Z Z ( ac hx Z Z Z (V O Z) Z Z ( AN.nil)))))) Z Z ?_))
 first | refine aa (aj O Z Z Z Z Z) Z Z Z ?_ | refine aa (Val.pickB O Z Z Z Z Z) Z Z Z ?_ | refine aa (ak O Z Z Z Z Z) Z Z Z ?_
 refine js O Z (bk [(32, _), (2, _), (0, _)] [] ⟨Z, Z, Z, trivial⟩ Z (au 5 Z Z Z (fun hx => ac hx Z Z Z (V O Z) Z Z ( ac hx Z Z Z (V O Z) Z Z ( ac hx Z Z Z (V O Z) Z Z ( ac hx Z Z Z (V O Z) Z Z ( ac hx Z Z Z (V O Z) Z Z ( AN.nil)))))) Z Z ?_))
 first | refine aa (aj O Z Z Z Z Z) Z Z Z ?_ | refine aa (Val.pickB O Z Z Z Z Z) Z Z Z ?_ | refine aa (ak O Z Z Z Z Z) Z Z Z ?_
 refine js O Z (jf [3,2,0] Z (aP (j4 O Z Z Z Z (j2 O Z Z (bk [(44, _), (3, _), (2, _), (0, _)] [] ⟨Z, Z, Z, Z, trivial⟩ Z (au 5 Z Z Z (fun hx => ac hx Z Z Z (V O Z) Z Z ( ac hx Z Z Z (V O Z) Z Z ( ac hx Z Z Z (V O Z) Z Z ( ac hx Z Z Z (V O Z) Z Z ( ac hx Z Z Z (V O Z) Z Z ( AN.nil)))))) Z Z ?_))))))
 first | refine aa (aj O Z Z Z Z Z) Z Z Z ?_ | refine aa (Val.pickB O Z Z Z Z Z) Z Z Z ?_ | refine aa (ak O Z Z Z Z Z) Z Z Z ?_
 refine js O Z (jf [4,3,2,0] Z (aP (j4 O Z Z Z Z (j2 O Z Z (bk [(56, _), (4, _), (3, _), (2, _), (0, _)] [] ⟨Z, Z, Z, Z, Z, trivial⟩ Z (au 5 Z Z Z (fun hx => ac hx Z Z Z (V O Z) Z Z ( ac hx Z Z Z (V O Z) Z Z ( ac hx Z Z Z (V O Z) Z Z ( ac hx Z Z Z (V O Z) Z Z ( ac hx Z Z Z (V O Z) Z Z ( AN.nil)))))) Z Z ?_))))))
 first | refine aa (aj O Z Z Z Z Z) Z Z Z ?_ | refine aa (Val.pickB O Z Z Z Z Z) Z Z Z ?_ | refine aa (ak O Z Z Z Z Z) Z Z Z ?_
 refine js O Z (jf [5,4,3,2,0] Z (jn (AWP.seq (ag (j4 O Z Z Z Z (bk [(66, _), (5, _), (4, _), (3, _), (2, _), (0, _)] [] ⟨Z, Z, Z, Z, Z, Z, trivial⟩ Z (ae O Z Z Z Z (ud h1 h2) (ab Z) Z Z Z Z Z (B0 := 68000) Z (j2 O Z Z (bk [(69, _), (5, _), (4, _), (3, _), (2, _), (0, _)] [] ⟨Z, Z, Z, Z, Z, Z, trivial⟩ Z (au 5 Z Z Z (fun hx => ac hx Z Z Z (V O Z) Z Z ( ac hx Z Z Z (V O Z) Z Z ( ac hx Z Z Z (V O Z) Z Z ( bv O hx Z Z Z Z (sZ (t := s.sum) h1 h2) (.cons (.c (.sub Z)) .nil) Z Z Z Z Z Z Z (B0 := 74000) Z ( ac hx Z Z Z (V O Z) Z Z ( AN.nil)))))) Z Z ?_))))))))))
 first | refine aa (aj O Z Z Z Z Z) Z Z Z ?_ | refine aa (Val.pickB O Z Z Z Z Z) Z Z Z ?_ | refine aa (ak O Z Z Z Z Z) Z Z Z ?_
 refine js O Z (bk [(76, _), (5, _), (4, _), (3, _), (2, _), (0, _)] [] ⟨Z, Z, Z, Z, Z, Z, trivial⟩ Z (au 5 Z Z Z (fun hx => ac hx Z Z Z (V O Z) Z Z ( ac hx Z Z Z (V O Z) Z Z ( ac hx Z Z Z (V O Z) Z Z ( bv O hx Z Z Z Z (sZ (t := s.index) h1 h2) (.cons (.c (.sub Z)) .nil) Z Z Z Z Z Z Z (B0 := 81000) Z ( ac hx Z Z Z (V O Z) Z Z ( AN.nil)))))) Z Z ?_))
 first | refine aa (aj O Z Z Z Z Z) Z Z Z ?_ | refine aa (Val.pickB O Z Z Z Z Z) Z Z Z ?_ | refine aa (ak O Z Z Z Z Z) Z Z Z ?_
 refine js O Z (bk [(83, _), (5, _), (4, _), (3, _), (2, _), (0, _)] [] ⟨Z, Z, Z, Z, Z, Z, trivial⟩ Z (au 6 Z Z Z (fun hx => ac hx Z Z Z (V O Z) Z Z ( ac hx Z Z Z (V O Z) Z Z ( ac hx Z Z Z (V O Z) Z Z ( ac hx Z Z Z (V O Z) Z Z ( bv O hx Z Z Z Z (s5 h1 h2) (ab Z) Z Z Z Z Z Z Z (B0 := 89000) Z ( ac hx Z Z Z (V O Z) Z Z ( AN.nil))))))) Z Z ?_))
 first | refine aa (aj O Z Z Z Z Z) Z Z Z ?_ | refine aa (Val.pickB O Z Z Z Z Z) Z Z Z ?_ | refine aa (ak O Z Z Z Z Z) Z Z Z ?_
 refine jf [90,5,4,3,2,0] Z (jn (AWP.cond O Z Z (fun hc90 => ?_) (fun hc90 => ?_)))
 refine ag (js O Z (jn (AWP.ret ?_)))
 refine ⟨.inl Z, _, Ent.refl, _, Z, ?_⟩
 rw [bB, show qh s = true from hc90]; rfl
 refine AWP.skip (AWP.seq (ag (j3 O Z Z Z (bk [(93, _), (5, _), (4, _), (2, _), (0, _)] [] ⟨Z, Z, Z, Z, Z, trivial⟩ Z (au 5 Z Z Z (fun hx => ac hx Z Z Z (V O Z) Z Z ( ac hx Z Z Z (V O Z) Z Z ( ac hx Z Z Z (V O Z) Z Z ( bv O hx Z Z Z Z (uU (t := s.sum) h1 h2) (.cons (.c (.sub Z)) .nil) Z Z Z Z Z Z Z (B0 := 98000) Z ( ac hx Z Z Z (V O Z) Z Z ( AN.nil)))))) Z Z ?_)))))
 first | refine aa (ak O Z Z Z Z Z) Z Z Z ?_ | refine aa (aj O Z Z Z Z Z) Z Z Z ?_ | refine aa (Val.pickB O Z Z Z Z Z) Z Z Z ?_
 refine js O Z (bk [(100, _), (5, _), (4, _), (2, _), (0, _)] [] ⟨Z, Z, Z, Z, Z, trivial⟩ Z (au 9 Z Z Z (fun hx => ac hx Z Z Z (V O Z) Z Z ( ac hx Z Z Z (V O Z) Z Z ( ac hx Z Z Z (V O Z) Z Z ( kr 5 Z Z Z Z (fun hx' => ac hx' Z Z Z (V O Z) Z Z ( ac hx' Z Z Z (V O Z) Z Z ( ac hx' Z Z Z (V O Z) Z Z ( bv O hx' Z Z Z Z (uU (t := s.index) h1 h2) (.cons (.c (.sub Z)) .nil) Z Z Z Z Z Z Z (B0 := 108000) Z ( ac hx' Z Z Z (V O Z) Z Z ( AN.nil)))))) Z Z ( ac hx Z Z Z (ak O Z Z Z Z Z) Z Z ( AN.nil)))))) Z Z ?_))
 first | refine aa (aj O Z Z Z Z Z) Z Z Z ?_ | refine aa (Val.pickB O Z Z Z Z Z) Z Z Z ?_ | refine aa (ak O Z Z Z Z Z) Z Z Z ?_
 refine js O Z (bk [(111, _), (5, _), (2, _), (0, _)] [] ⟨Z, Z, Z, Z, trivial⟩ Z (au 13 Z Z Z (fun hx => ac hx Z Z Z (V O Z) Z Z ( ac hx Z Z Z (V O Z) Z Z ( ac hx Z Z Z (V O Z) Z Z ( ac hx Z Z Z (V O Z) Z Z ( ac hx Z Z Z (V O Z) Z Z ( ac hx Z Z Z (V O Z) Z Z ( kr 6 Z Z Z Z (fun hx' => ac hx' Z Z Z (V O Z) Z Z ( ac hx' Z Z Z (V O Z) Z Z ( ac hx' Z Z Z (V O Z) Z Z ( ac hx' Z Z Z (V O Z) Z Z ( ac hx' Z Z Z (cU O Z Z Z Z Z Z Z Z) Z Z ( ac hx' Z Z Z (V O Z) Z Z ( AN.nil))))))) Z Z ( ac hx Z Z Z (ak O Z Z Z Z Z) Z Z ( AN.nil))))))))) Z Z ?_))
 first | refine aa (aj O Z Z Z Z Z) Z Z Z ?_ | refine aa (Val.pickB O Z Z Z Z Z) Z Z Z ?_ | refine aa (ak O Z Z Z Z Z) Z Z Z ?_
 refine jf [125,5,2,0] Z (jn (AWP.cond O Z Z (fun hc125 => ?_) (fun hc125 => ?_)))
 refine ag (js O Z (jn (AWP.ret ?_)))
 refine ⟨.inl Z, _, Ent.refl, _, Z, ?_⟩
 rw [bB, show qh s = false from hc90, show uc s = true from hc125]; rfl
 refine AWP.skip (AWP.seq (ag (j2 O Z Z (bk [(127, _), (5, _), (2, _), (0, _)] [] ⟨Z, Z, Z, Z, trivial⟩ Z (au 6 Z Z Z (fun hx => ac hx Z Z Z (V O Z) Z Z ( ac hx Z Z Z (V O Z) Z Z ( ac hx Z Z Z (V O Z) Z Z ( ac hx Z Z Z (V O Z) Z Z ( bv O hx Z Z Z Z (ud h1 h2) (ab Z) Z Z Z Z Z Z Z (B0 := 133000) Z ( ac hx Z Z Z (V O Z) Z Z ( AN.nil))))))) Z Z ?_)))))
 first | refine aa (ak O Z Z Z Z Z) Z Z Z ?_ | refine aa (aj O Z Z Z Z Z) Z Z Z ?_ | refine aa (Val.pickB O Z Z Z Z Z) Z Z Z ?_
 refine js O Z (bk [(135, _), (5, _), (2, _), (0, _)] [] ⟨Z, Z, Z, Z, trivial⟩ Z (au 9 Z Z Z (fun hx => ac hx Z Z Z (V O Z) Z Z ( ac hx Z Z Z (V O Z) Z Z ( ac hx Z Z Z (V O Z) Z Z ( kr 5 Z Z Z Z (fun hx' => ac hx' Z Z Z (V O Z) Z Z ( ac hx' Z Z Z (V O Z) Z Z ( ac hx' Z Z Z (V O Z) Z Z ( ac hx' Z Z Z (V O Z) Z Z ( ac hx' Z Z Z (V O Z) Z Z ( AN.nil)))))) Z Z ( ac hx Z Z Z (ak O Z Z Z Z Z) Z Z ( AN.nil)))))) Z Z ?_))
 first | refine aa (aj O Z Z Z Z Z) Z Z Z ?_ | refine aa (Val.pickB O Z Z Z Z Z) Z Z Z ?_ | refine aa (ak O Z Z Z Z Z) Z Z Z ?_
 refine jf [145,2,0] Z (jn (AWP.cond O Z Z (fun hc145 => ?_) (fun hc145 => ?_)))
 refine ag (js O Z (jn (AWP.ret ?_)))
 refine ⟨.inl Z, _, Ent.refl, _, Z, ?_⟩
 rw [bB, show qh s = false from hc90, show uc s = false from hc125, show uj s = true from hc145]; rfl
 refine AWP.skip (AWP.seq (ag (j4 O Z Z Z Z (js O Z (jf [150,2,0] Z (jn (AWP.cond O Z Z (fun hc150 => ?_) (fun hc150 => ?_))))))))
 refine ag (j4 O Z Z Z Z (bk [(154, _), (2, _), (0, _)] [] ⟨Z, Z, Z, trivial⟩ Z (ae O Z Z Z Z (ud h1 h2) (ab Z) Z Z Z Z Z (B0 := 156000) Z (js O Z (jf [2,0] Z (jn (AWP.ret ?_)))))))
 refine ⟨.inl Z, _, Ent.refl, _, Z, ?_⟩
 rw [bB, show qh s = false from hc90, show uc s = false from hc125, show uj s = false from hc145, hc150]; rfl
 refine AWP.skip (ag (j4 O Z Z Z Z (j2 O Z Z (jf [2,0] Z (jn (AWP.ret ?_))))))
 refine ⟨.inl Z, _, Ent.refl, _, Z, ?_⟩
 rw [bB, show qh s = false from hc90, show uc s = false from hc125, show uj s = false from hc145, hc150]; rfl
theorem xa {b : List Sm} : MQ h1 h2 48 [.c (.d (eZ b))] [] (Plain (eB (gd b))) := by
 refine av ?_ Z
 refine jB 24 h1 h2 Tryz.func48 Z Z Z fun O hF => ?_
 have hl : b.length ≤ L := by simpa [As.fact, A.fact, M.fact, D.fact, Ds.fact] using hF.1.1
 refine ag (js O Z (jn (AWP.seq (ag (js O Z ?_)))))
 first | refine cy O Z Z Z Z Z Z Z Z Z Z Z ?_ | refine js O Z ?_ | refine aY O Z Z Z Z Z ?_
 refine ae O Z Z Z Z (ud h1 h2) (ab Z) Z Z Z Z Z (B0 := 7000) Z (js O Z (jn (AWP.cond O Z Z (fun hc7 => ?_) (fun hc7 => ?_))))
 try simp only [bg] at hc7
 refine ag (js O Z (jn (AWP.ret ?_)))
 refine ⟨.inl Z, _, Ent.refl, _, Z, ?_⟩
 rw [gd, show (decide ((1 : Int) ≤ b.length) && decide ((b.length : Int) ≤ 30)) = false from hc7, Bool.false_and]
 try simp only [bg] at hc7
 refine AWP.skip (AWP.seq (ag (js O Z (jn (AWP.block (az (X := Nat) (fun i => ⟨[(0, .c (.d (eZ b))), (3, eI i)], []⟩) (fun i => i ≤ b.length ∧ ∀ j (h : j < b.length), j < i → bB b[j] = true) (fun i => b.length - i) 0 (Ent.env ⟨Z, Z, trivial⟩) ?_ (fun i hi => ?_)))))))
 exact ⟨Nat.zero_le _, fun j h hj => absurd hj (Nat.not_lt_zero j)⟩
 refine AWP.seq (ag (j2 O Z Z ?_))
 first | refine cy O Z Z Z Z Z Z Z Z Z Z Z ?_ | refine js O Z ?_ | refine aY O Z Z Z Z Z ?_
 refine js O Z (jn (AWP.cond O Z Z (fun hc11 => ?_) (fun hc11 => ?_)))
 try simp only [bg] at hc11
 refine AWP.skip (AWP.seq (AWP.block (ag (j2 O Z Z ?_))))
 first | refine dR O Z Z Z Z Z Z Z Z Z Z Z ?_ | refine aY O Z Z Z Z Z ?_
 refine ae O Z Z Z Z (w4 h1 h2) (ab Z) Z Z Z Z Z (B0 := 18000) Z (js O Z (jn (AWP.cond O Z Z (fun hc18 => ?_) (fun hc18 => ?_))))
 try simp only [bg] at hc18
 refine ag (js O Z (jn (AWP.ret ?_)))
 refine ⟨.inl Z, _, Ent.refl, _, Z, ?_⟩
 rw [Int.toNat_natCast, aI (by omega)] at hc18
 rw [gd, fh i (by omega) hc18, Bool.false_and, Bool.and_false]
 try simp only [bg] at hc18
 refine AWP.skip (AWP.region (js O Z ?_))
 first | refine ji O Z ?_ | refine aY O Z Z Z Z Z ?_
 refine js O Z (jn ?_)
 refine ⟨i + 1, Ent.env ⟨Z, Z, trivial⟩, ⟨by omega, fun j h hj => ?_⟩, by omega⟩
 by_cases e : j = i
 subst e; rw [Int.toNat_natCast, aI h] at hc18; exact hc18
 exact hi.2 j h (by omega)
 try simp only [bg] at hc11
 refine AWP.exit (ag (js O Z (ae O Z Z Z Z (w9 (k := 0) h1 h2 (Nat.zero_le _)) (ab Z) Z Z Z Z Z (B0 := 21000) Z (js O Z ?_))))
 first | refine cy O Z Z Z Z Z Z Z Z Z Z Z ?_ | refine js O Z ?_ | refine aY O Z Z Z Z Z ?_
 refine j2 O Z Z (jn (AWP.ret ?_))
 refine ⟨.inl Z, _, Ent.refl, _, Z, ?_⟩
 rw [gd, show (decide ((1 : Int) ≤ b.length) && decide ((b.length : Int) ≤ 30)) = true from hc7, fP (fun j hj => hi.2 j hj (by omega)), Bool.true_and, Bool.true_and]
theorem rz {p : Pm} : MQ h1 h2 27 [ptr p.data] [] (Plain (eB (cC p))) := by
 refine av ?_ Z
 refine jB 22 h1 h2 Tryz.func27 Z Z Z fun O hF => ?_
 refine ag (js O Z (aP (j4 O Z Z Z Z (bk [(6, _), (2, _), (0, _)] [] ⟨Z, Z, Z, trivial⟩ Z (ae O Z Z Z Z (s5 h1 h2) (ab Z) Z Z Z Z Z (B0 := 8000) Z (js O Z (bk [(8, _), (2, _), (0, _)] [] ⟨Z, Z, Z, trivial⟩ Z (au 5 Z Z Z (fun hx => ac hx Z Z Z (V O Z) Z Z ( ac hx Z Z Z (V O Z) Z Z ( ac hx Z Z Z (V O Z) Z Z ( ac hx Z Z Z (V O Z) Z Z ( bv O hx Z Z Z Z (xa h1 h2) (ab Z) Z Z Z Z Z Z Z (B0 := 14000) Z ( AN.nil)))))) Z Z ?_))))))))
 first | refine aa (ak O Z Z Z Z Z) Z Z Z ?_ | refine aa (aj O Z Z Z Z Z) Z Z Z ?_ | refine aa (Val.pickB O Z Z Z Z Z) Z Z Z ?_
 refine js O Z (bk [(15, _), (2, _), (0, _)] [] ⟨Z, Z, Z, trivial⟩ Z (au 5 Z Z Z (fun hx => ac hx Z Z Z (V O Z) Z Z ( ac hx Z Z Z (V O Z) Z Z ( ac hx Z Z Z (V O Z) Z Z ( ac hx Z Z Z (V O Z) Z Z ( bv O hx Z Z Z Z (s5 h1 h2) (ab Z) Z Z Z Z Z Z Z (B0 := 21000) Z ( AN.nil)))))) Z Z ?_))
 first | refine aa (ak O Z Z Z Z Z) Z Z Z ?_ | refine aa (aj O Z Z Z Z Z) Z Z Z ?_ | refine aa (Val.pickB O Z Z Z Z Z) Z Z Z ?_
 refine js O Z (jf [2] Z (jn (AWP.ret ?_)))
 refine ⟨.inl Z, _, Ent.refl, _, Z, ?_⟩
 rw [Bool.cond_false_right, Bool.cond_false_right, Bool.and_assoc]; rfl
abbrev cZ (t : Tm) : A := .agg (t.cells.map .d)
def ga (lo hi x : Int) : Bool := decide (lo ≤ x) && decide (x ≤ hi)

theorem qp {x lo hi : Int} : MQ h1 h2 103 [eI x, eI lo, eI hi] [] (Plain (eB (ga lo hi x))) := by
 refine av ?_ Z
 refine jB 15 h1 h2 Tryz.func103 Z Z Z fun O hF => ?_
 refine ag (js O Z (aP (j4 O Z Z Z Z (au 3 Z Z Z (fun hx => ac hx Z Z Z (V O Z) Z Z ( ac hx Z Z Z (V O Z) Z Z ( ac hx Z Z Z (V O Z) Z Z ( AN.nil)))) Z Z ?_))))
 first | refine aa (ak O Z Z Z Z Z) Z Z Z ?_ | refine aa (aj O Z Z Z Z Z) Z Z Z ?_ | refine aa (Val.pickB O Z Z Z Z Z) Z Z Z ?_
 refine js O Z (jn (AWP.ret ?_))
 refine ⟨.inl Z, _, Ent.refl, _, Z, ?_⟩
 rw [Bool.cond_false_right]; rfl
theorem wZ {xs : List Int} {lo hi : Int} : MQ h1 h2 119 [cD xs, eI lo, eI hi] [] (Plain (eB (xs.all (ga lo hi)))) := by
 refine av ?_ Z
 refine jB 21 h1 h2 Tryz.func119 Z Z Z fun O hF => ?_
 have hl : xs.length ≤ L := by simpa [As.fact, A.fact, M.fact, D.fact, Ds.fact] using hF.1.1
 refine ag (js O Z (jn (AWP.seq (ag (js O Z ?_)))))
 first | refine cy O Z Z Z Z Z Z Z Z Z Z Z ?_ | refine js O Z ?_ | refine aY O Z Z Z Z Z ?_
 refine js O Z (jn (AWP.block (az (X := Nat) (fun i => ⟨[(1, eI lo), (2, eI hi), (9, cD xs), (10, eI xs.length), (11, eI i)], []⟩) (fun i => i ≤ xs.length ∧ ∀ j (h : j < xs.length), j < i → ga lo hi xs[j] = true) (fun i => xs.length - i) 0 (Ent.env ⟨Z, Z, Z, Z, Z, trivial⟩) ?_ (fun i hi => ?_))))
 exact ⟨Nat.zero_le _, fun j h hj => absurd hj (Nat.not_lt_zero j)⟩
 refine ag (js O Z (jn (AWP.seq (AWP.cond O Z Z (fun hc12 => ?_) (fun hc12 => ?_)))))
 try simp only [bg] at hc12
 refine AWP.skip (AWP.seq (AWP.block (ag ?_)))
 first | refine dR O Z Z Z Z Z Z Z Z Z Z Z ?_ | refine aY O Z Z Z Z Z ?_
 refine j2 O Z Z (aP (j3 O Z Z Z (ae O Z Z Z Z (qp h1 h2) (ab Z) Z Z Z Z Z (B0 := 19000) Z (js O Z (jn (AWP.cond O Z Z (fun hc19 => ?_) (fun hc19 => ?_)))))))
 try simp only [bg] at hc19
 refine ag (js O Z (jn (AWP.ret ?_)))
 refine ⟨.inl Z, _, Ent.refl, _, Z, ?_⟩
 rw [Int.toNat_natCast, aI (by omega)] at hc19
 rw [fh i (by omega) hc19]
 try simp only [bg] at hc19
 refine AWP.skip (AWP.region ?_)
 first | refine ji O Z ?_ | refine aY O Z Z Z Z Z ?_
 refine js O Z (jn ?_)
 refine ⟨i + 1, Ent.env ⟨Z, Z, Z, Z, Z, trivial⟩, ⟨by omega, fun j h hj => ?_⟩, by omega⟩
 by_cases e : j = i
 subst e; rw [Int.toNat_natCast, aI h] at hc19; exact hc19
 exact hi.2 j h (by omega)
 try simp only [bg] at hc12
 refine AWP.exit (ag (js O Z (jn (AWP.ret ?_))))
 refine ⟨.inl Z, _, Ent.refl, _, Z, ?_⟩
 rw [fP (fun j hj => hi.2 j hj (by omega))]
theorem wW {x : Int} : MQ h1 h2 118 [eI x] [] (Plain (eB (num x))) := by
 refine av ?_ Z
 refine jB 5 h1 h2 Tryz.func118 Z Z Z fun O hF => ?_
 refine ag (js O Z (aP (js O Z (ae O Z Z Z Z (qp h1 h2) (ab Z) Z Z Z Z Z (B0 := 5000) Z (js O Z (jn (AWP.ret ?_)))))))
 refine ⟨.inl Z, _, Ent.refl, _, Z, ?_⟩
 first | rfl | skip
theorem rT (t : Tm) : (bif bif bif decide ((t.xs.length : Int) ≤ 10) then num t.c else false then t.xs.all num else false then bif decide ((t.xs.length : Int) = 0) then true else !decide (t.xs.getD ((t.xs.length : Int) - 1).toNat default = 0) else false) = t.ok := by
 unfold Tm.ok
 cases num t.c <;> cases t.xs.all num <;> simp
 by_cases h0 : t.xs = []
 simp [h0]
 have h1 : 0 < t.xs.length := List.length_pos_iff.2 h0
 by_cases h2 : (t.xs.length : Int) ≤ 10
 have h3 : ¬ (10 : Int) < t.xs.length := by omega
 simp [h0, h1, h2, h3]
 have h3 : (10 : Int) < t.xs.length := by omega
 simp [h2, h3]
theorem mJ {t : Tm} : MQ h1 h2 93 [cZ t] [] (Plain (eB t.ok)) := by
 refine av ?_ Z
 refine jB 32 h1 h2 Tryz.func93 Z Z Z fun O hF => ?_
 have hl : t.xs.length ≤ L := by simpa [As.fact, A.fact, M.fact, Ms.fact, D.fact, Ds.fact] using hF.1.2.1.1
 refine ag (jx O Z Z Z Z Z Z Z Z (js O Z (aP (j2 O Z Z ?_))))
 first | refine cy O Z Z Z Z Z Z Z Z Z Z Z ?_ | refine js O Z ?_ | refine aa (cL O Z Z (by first | omega | (simp only [List.length_map, beq_iff_eq, decide_eq_true_eq, decide_eq_false_iff_not, Bool.not_eq_true', Bool.not_eq_false', Bool.not_true, Bool.not_false, Int.not_lt, Int.not_le] at *; omega))) Z Z Z ?_
 refine js O Z (jf [3,2,1,0] Z (aP (j3 O Z Z Z (jf [9,3,2,1,0] Z (au 3 Z Z Z (fun hx => ac hx Z Z Z (V O Z) Z Z ( ac hx Z Z Z (V O Z) Z Z ( bv O hx Z Z Z Z (wW h1 h2) (ab Z) Z Z Z Z Z Z Z (B0 := 13000) Z ( AN.nil)))) Z Z ?_)))))
 first | refine aa (ak O Z Z Z Z Z) Z Z Z ?_ | refine aa (aj O Z Z Z Z Z) Z Z Z ?_ | refine aa (Val.pickB O Z Z Z Z Z) Z Z Z ?_
 refine js O Z (jf [14,3,2,1,0] Z (au 3 Z Z Z (fun hx => ac hx Z Z Z (V O Z) Z Z ( ac hx Z Z Z (V O Z) Z Z ( bv O hx Z Z Z Z (wZ h1 h2) (ab Z) Z Z Z Z Z Z Z (B0 := 18000) Z ( AN.nil)))) Z Z ?_))
 first | refine aa (ak O Z Z Z Z Z) Z Z Z ?_ | refine aa (aj O Z Z Z Z Z) Z Z Z ?_ | refine aa (Val.pickB O Z Z Z Z Z) Z Z Z ?_
 refine js O Z (jf [19,3,2,1,0] Z (au 11 Z Z Z (fun hx => ac hx Z Z Z (V O Z) Z Z ( ac hx Z Z Z (V O Z) Z Z ( ac hx Z Z Z (V O Z) Z Z ( kr 7 Z Z Z Z (fun hx' => ac hx' Z Z Z (V O Z) Z Z ( ac hx' Z Z Z (V O Z) Z Z ( ac hx' Z Z Z (V O Z) Z Z ( ac hx' Z Z Z (bc O Z Z (by first | omega | (simp only [List.length_map, beq_iff_eq, decide_eq_true_eq, decide_eq_false_iff_not, Bool.not_eq_true', Bool.not_eq_false', Bool.not_true, Bool.not_false, Int.not_lt, Int.not_le] at *; omega)) (by first | omega | (simp only [List.length_map, beq_iff_eq, decide_eq_true_eq, decide_eq_false_iff_not, Bool.not_eq_true', Bool.not_eq_false', Bool.not_true, Bool.not_false, Int.not_lt, Int.not_le] at *; omega))) Z Z ( ac hx' Z Z Z (aV O Z Z Z Z Z Z Z Z (by first | omega | (simp only [List.length_map, beq_iff_eq, decide_eq_true_eq, decide_eq_false_iff_not, Bool.not_eq_true', Bool.not_eq_false', Bool.not_true, Bool.not_false, Int.not_lt, Int.not_le] at *; omega)) (cJ (by first | omega | (simp only [List.length_map, beq_iff_eq, decide_eq_true_eq, decide_eq_false_iff_not, Bool.not_eq_true', Bool.not_eq_false', Bool.not_true, Bool.not_false, Int.not_lt, Int.not_le] at *; omega)) (by first | omega | (simp only [List.length_map, beq_iff_eq, decide_eq_true_eq, decide_eq_false_iff_not, Bool.not_eq_true', Bool.not_eq_false', Bool.not_true, Bool.not_false, Int.not_lt, Int.not_le] at *; omega)))) Z Z ( ac hx' Z Z Z (V O Z) Z Z ( ac hx' Z Z Z (V O Z) Z Z ( AN.nil)))))))) Z Z ( ac hx Z Z Z (aj O Z Z Z Z Z) Z Z ( AN.nil)))))) Z Z ?_))
 first | refine aa (ak O Z Z Z Z Z) Z Z Z ?_ | refine aa (aj O Z Z Z Z Z) Z Z Z ?_ | refine aa (Val.pickB O Z Z Z Z Z) Z Z Z ?_
 refine js O Z (jf [2,1,0] Z (jn (AWP.ret ?_)))
 refine ⟨.inl Z, _, Ent.refl, _, Z, ?_⟩
 exact congrArg eB (rT t)
theorem mK {t : Tm} : MQ h1 h2 124 [cZ t] [] (Plain (eB t.term)) := by
 refine av ?_ Z
 refine jB 11 h1 h2 Tryz.func124 Z Z Z fun O hF => ?_
 refine ag (jx O Z Z Z Z Z Z Z Z (js O Z (aP (js O Z (ae O Z Z Z Z (mJ h1 h2) (ab Z) Z Z Z Z Z (B0 := 5000) Z (js O Z (jf [5,2,1,0] Z (au 4 Z Z Z (fun hx => ac hx Z Z Z (V O Z) Z Z ( ac hx Z Z Z (V O Z) Z Z ( ac hx Z Z Z (cU O Z Z Z Z Z Z Z Z) Z Z ( ac hx Z Z Z (V O Z) Z Z ( AN.nil))))) Z Z ?_))))))))
 first | refine aa (ak O Z Z Z Z Z) Z Z Z ?_ | refine aa (aj O Z Z Z Z Z) Z Z Z ?_ | refine aa (Val.pickB O Z Z Z Z Z) Z Z Z ?_
 refine js O Z (jf [2,0] Z (jn (AWP.ret ?_)))
 refine ⟨.inl Z, _, Ent.refl, _, Z, ?_⟩
 rw [Bool.cond_false_right]; rfl
theorem uN {t : Tm} : MQ h1 h2 134 [cZ t] [] (Plain (eB t.zero)) := by
 refine av ?_ Z
 refine jB 12 h1 h2 Tryz.func134 Z Z Z fun O hF => ?_
 refine ag (jx O Z Z Z Z Z Z Z Z (js O Z (aP (j4 O Z Z Z Z (jf [6,2,1,0] Z (au 4 Z Z Z (fun hx => ac hx Z Z Z (V O Z) Z Z ( ac hx Z Z Z (V O Z) Z Z ( ac hx Z Z Z (cU O Z Z Z Z Z Z Z Z) Z Z ( ac hx Z Z Z (V O Z) Z Z ( AN.nil))))) Z Z ?_))))))
 first | refine aa (ak O Z Z Z Z Z) Z Z Z ?_ | refine aa (aj O Z Z Z Z Z) Z Z Z ?_ | refine aa (Val.pickB O Z Z Z Z Z) Z Z Z ?_
 refine js O Z (jf [2,0] Z (jn (AWP.ret ?_)))
 refine ⟨.inl Z, _, Ent.refl, _, Z, ?_⟩
 rw [Bool.cond_false_right]; rfl
theorem wX {t : Tm} : MQ h1 h2 123 [cZ t] [] (Plain (eB !t.term)) := by
 refine av ?_ Z
 refine jB 6 h1 h2 Tryz.func123 Z Z Z fun O hF => ?_
 refine ag (jx O Z Z Z Z Z Z Z Z (js O Z (aP (js O Z (jf [3,2,0] Z (ae O Z Z Z Z (mK h1 h2) (ab Z) Z Z Z Z Z (B0 := 5000) Z (j2 O Z Z (jf [2,0] Z (jn (AWP.ret ?_))))))))))
 refine ⟨.inl Z, _, Ent.refl, _, Z, ?_⟩
 first | rfl | skip
def nC (ts : List Tm) : Int := if ts.all Tm.term = true then -1 else (ts.findIdx fun t => !t.term : Nat)
theorem rh {ts : List Tm} (h : ∀ j (hj : j < ts.length), Tm.term ts[j] = true) : nC ts = -1 := by rw [nC, if_pos (fP h)]
theorem r4 {ts : List Tm} {i : Nat} (hi : i < ts.length) (h : ∀ j (hj : j < ts.length), j < i → Tm.term ts[j] = true) (hn : Tm.term ts[i] = false) : nC ts = i := by
 rw [nC, if_neg (by rw [fh i hi hn]; decide)]
 exact congrArg Nat.cast ((List.findIdx_eq hi).2 ⟨by simp [hn], fun j hj => by simp [h j (by omega) hj]⟩)
theorem rg {ts : List Tm} : decide (nC ts ≥ 0) = !ts.all Tm.term := by
 unfold nC
 cases h : ts.all Tm.term <;> simp
theorem wS {ts : List Tm} : MQ h1 h2 133 [cr ts, .c (.fn 123 [])] [] (Plain (eI (nC ts))) := by
 refine av ?_ Z
 refine jB 19 h1 h2 Tryz.func133 Z Z Z fun O hF => ?_
 have hl : ts.length ≤ L := by simpa [As.fact, A.fact, M.fact, D.fact, Ds.fact] using hF.1.1
 refine ag (js O Z (jn (AWP.seq (ag (js O Z ?_)))))
 first | refine cy O Z Z Z Z Z Z Z Z Z Z Z ?_ | refine js O Z ?_ | refine aY O Z Z Z Z Z ?_
 refine js O Z (jn (AWP.block (az (X := Nat) (fun i => ⟨[(0, cr ts), (1, .c (.fn 123 [])), (7, eI ts.length), (8, eI i)], []⟩) (fun i => i ≤ ts.length ∧ ∀ j (h : j < ts.length), j < i → Tm.term ts[j] = true) (fun i => ts.length - i) 0 (Ent.env ⟨Z, Z, Z, Z, trivial⟩) ?_ (fun i hi => ?_))))
 exact ⟨Nat.zero_le _, fun j h hj => absurd hj (Nat.not_lt_zero j)⟩
 refine ag (js O Z (jn (AWP.seq (AWP.cond O Z Z (fun hc9 => ?_) (fun hc9 => ?_)))))
 try simp only [bg] at hc9
 refine AWP.skip (AWP.seq (AWP.block (ag (j2 O Z Z (aP (j3 O Z Z Z ?_))))))
 first | refine dR O Z Z Z Z Z Z Z Z Z Z Z ?_ | refine aY O Z Z Z Z Z ?_
 refine js O Z (ae O Z Z Z Z (wX h1 h2) (ab Z) Z Z Z Z Z (B0 := 17000) Z (jn (AWP.cond O Z Z (fun hc16 => ?_) (fun hc16 => ?_))))
 try simp only [bg] at hc16
 refine ag (j2 O Z Z (jn (AWP.ret ?_)))
 refine ⟨.inl Z, _, Ent.refl, _, Z, ?_⟩
 rw [Int.toNat_natCast, aI (by omega)] at hc16
 rw [r4 (by omega) hi.2 hc16]
 try simp only [bg] at hc16
 refine AWP.skip (AWP.region ?_)
 first | refine ji O Z ?_ | refine aY O Z Z Z Z Z ?_
 refine js O Z (jn ?_)
 refine ⟨i + 1, Ent.env ⟨Z, Z, Z, Z, trivial⟩, ⟨by omega, fun j h hj => ?_⟩, by omega⟩
 by_cases e : j = i
 subst e; rw [Int.toNat_natCast, aI h] at hc16; exact hc16
 exact hi.2 j h (by omega)
 try simp only [bg] at hc9
 refine AWP.exit (ag (js O Z (jn (AWP.ret ?_))))
 refine ⟨.inl Z, _, Ent.refl, _, Z, ?_⟩
 rw [rh (fun j hj => hi.2 j hj (by omega))]
theorem wY {ts : List Tm} : MQ h1 h2 122 [cr ts, .c (.fn 123 [])] [] (Plain (eB !ts.all Tm.term)) := by
 refine av ?_ Z
 refine jB 9 h1 h2 Tryz.func122 Z Z Z fun O hF => ?_
 refine ag (js O Z (aP (j2 O Z Z (ae O Z Z Z Z (wS h1 h2) (.cons (.c .d) (.cons (.c (.fn .nil)) .nil)) Z Z Z Z Z (B0 := 8000) Z (j2 O Z Z (jn (AWP.ret ?_)))))))
 refine ⟨.inl Z, _, Ent.refl, _, Z, ?_⟩
 exact congrArg eB rg
theorem s4 {ts : List Tm} {n : Int} : MQ h1 h2 100 [cr ts, eI n] [] (Plain (eB (cB ts n))) := by
 refine av ?_ Z
 refine jB 14 h1 h2 Tryz.func100 Z Z Z fun O hF => ?_
 refine ag (js O Z (aP (js O Z ?_)))
 first | refine cy O Z Z Z Z Z Z Z Z Z Z Z ?_ | refine js O Z ?_ | refine aY O Z Z Z Z Z ?_
 refine j3 O Z Z Z (au 3 Z Z Z (fun hx => ac hx Z Z Z (V O Z) Z Z ( bv O hx Z Z Z Z (wY h1 h2) (.cons (.c .d) (.cons (.c (.fn .nil)) .nil)) Z Z Z Z Z Z Z (B0 := 12000) Z ( ac hx Z Z Z (V O Z) Z Z ( AN.nil)))) Z Z ?_)
 first | refine aa (ak O Z Z Z Z Z) Z Z Z ?_ | refine aa (aj O Z Z Z Z Z) Z Z Z ?_ | refine aa (Val.pickB O Z Z Z Z Z) Z Z Z ?_
 refine js O Z (jn (AWP.ret ?_))
 refine ⟨.inl Z, _, Ent.refl, _, Z, ?_⟩
 rw [Bool.cond_false_right, Bool.not_not, Bool.and_comm]; rfl
theorem uR {x : Int} : MQ h1 h2 135 [eI x] [] (Plain (eB (ga 0 3 x))) := by
 refine av ?_ Z
 refine jB 5 h1 h2 Tryz.func135 Z Z Z fun O hF => ?_
 refine ag (js O Z (aP (js O Z (ae O Z Z Z Z (qp h1 h2) (ab Z) Z Z Z Z Z (B0 := 5000) Z (js O Z (jn (AWP.ret ?_)))))))
 refine ⟨.inl Z, _, Ent.refl, _, Z, ?_⟩
 first | rfl | skip
theorem wT {x : Int} : MQ h1 h2 136 [eI x] [] (Plain (eB (ga 0 3 x))) := by
 refine av ?_ Z
 refine jB 5 h1 h2 Tryz.func136 Z Z Z fun O hF => ?_
 refine ag (js O Z (aP (js O Z (ae O Z Z Z Z (qp h1 h2) (ab Z) Z Z Z Z Z (B0 := 5000) Z (js O Z (jn (AWP.ret ?_)))))))
 refine ⟨.inl Z, _, Ent.refl, _, Z, ?_⟩
 first | rfl | skip
def bI (s : Sm) : Int := if bB s = true then bh s.kind else -1

theorem bG {t : Tm} (h : t.zero = true) : t.term = true := by
 simp only [Tm.zero, Bool.and_eq_true, decide_eq_true_eq] at h
 obtain ⟨h1, h2⟩ := h
 have h3 : t.xs = [] := List.eq_nil_of_length_eq_zero (by omega)
 simp [Tm.term, Tm.ok, num, h1, h3]
theorem fN {ts : List Tm} (h : decide ((ts.length : Int) = 0) = true) : cB ts 6 = true := by
 have h3 : ts = [] := List.eq_nil_of_length_eq_zero (by have := of_decide_eq_true h; omega)
 subst h3; rfl
theorem fM {ts : List Tm} : decide ((0 : Int) < ts.length) = !decide ((ts.length : Int) = 0) := by
 by_cases h : (ts.length : Int) = 0
 simp [h]
 have : (0 : Int) < ts.length := by omega
 simp only [h, this, decide_true, decide_false, Bool.not_false]
def lW (n8 st it tf su sz ix iz k8 fp na v3 v0 k5 e3 e0 : Bool) : Bool :=
  bif (bif (bif (bif !n8 then true else !st) then true else !it) then true else !tf) then false
  else bif (bif (bif (bif !su then !sz else false) then true else (bif !ix then !iz else false)) then true else (bif !k8 then fp else false)) then false
  else bif (bif (bif na then !v3 else false) then true else (bif !na then !v0 else false)) then false
  else bif k5 then e3 else e0
theorem kb0 : ∀ st it tf sz iz f0 v3 v0 e3 e0 : Bool, (sz = true → st = true) → (iz = true → it = true) → (f0 = true → tf = true) → lW true st it tf false sz false iz false (!f0) false v3 v0 false e3 e0 = (bif (bif (bif (bif v0 then e0 else false) then sz else false) then iz else false) then f0 else false) := by decide
theorem uD (s : Sm) (hk : decide (s.kind = 0) = true) : bB s = (bif (bif (bif (bif decide (s.var = 0) then decide (s.event = 0) else false) then s.sum.zero else false) then s.index.zero else false) then decide ((s.facts.length : Int) = 0) else false) := by
 rw [← kb0 s.sum.term s.index.term (cB s.facts 6) s.sum.zero s.index.zero (decide ((s.facts.length : Int) = 0)) (ga 0 3 s.var) (decide (s.var = 0)) (ga 0 3 s.event) (decide (s.event = 0)) bG bG fN, ← fM]
 cases s with
 | mk kind var event sum index facts =>
  have hk := of_decide_eq_true hk
  simp only at hk
  subst hk
  rfl
theorem kb1 : ∀ st it tf sz iz f0 v3 v0 e3 e0 : Bool, (sz = true → st = true) → (iz = true → it = true) → (f0 = true → tf = true) → lW true st it tf false sz false iz false (!f0) false v3 v0 false e3 e0 = (bif (bif (bif (bif v0 then e0 else false) then sz else false) then iz else false) then f0 else false) := by decide
theorem uC (s : Sm) (hk : decide (s.kind = 1) = true) : bB s = (bif (bif (bif (bif decide (s.var = 0) then decide (s.event = 0) else false) then s.sum.zero else false) then s.index.zero else false) then decide ((s.facts.length : Int) = 0) else false) := by
 rw [← kb1 s.sum.term s.index.term (cB s.facts 6) s.sum.zero s.index.zero (decide ((s.facts.length : Int) = 0)) (ga 0 3 s.var) (decide (s.var = 0)) (ga 0 3 s.event) (decide (s.event = 0)) bG bG fN, ← fM]
 cases s with
 | mk kind var event sum index facts =>
  have hk := of_decide_eq_true hk
  simp only at hk
  subst hk
  rfl
theorem kb2 : ∀ st it tf sz iz f0 v3 v0 e3 e0 : Bool, (sz = true → st = true) → (iz = true → it = true) → (f0 = true → tf = true) → lW true st it tf true sz false iz false (!f0) true v3 v0 false e3 e0 = (bif (bif (bif (bif v3 then e0 else false) then st else false) then iz else false) then f0 else false) := by decide
theorem uB (s : Sm) (hk : decide (s.kind = 2) = true) : bB s = (bif (bif (bif (bif ga 0 3 s.var then decide (s.event = 0) else false) then s.sum.term else false) then s.index.zero else false) then decide ((s.facts.length : Int) = 0) else false) := by
 rw [← kb2 s.sum.term s.index.term (cB s.facts 6) s.sum.zero s.index.zero (decide ((s.facts.length : Int) = 0)) (ga 0 3 s.var) (decide (s.var = 0)) (ga 0 3 s.event) (decide (s.event = 0)) bG bG fN, ← fM]
 cases s with
 | mk kind var event sum index facts =>
  have hk := of_decide_eq_true hk
  simp only at hk
  subst hk
  rfl
theorem kb3 : ∀ st it tf sz iz f0 v3 v0 e3 e0 : Bool, (sz = true → st = true) → (iz = true → it = true) → (f0 = true → tf = true) → lW true st it tf false sz true iz false (!f0) true v3 v0 false e3 e0 = (bif (bif (bif (bif v3 then e0 else false) then sz else false) then it else false) then f0 else false) := by decide
theorem uA (s : Sm) (hk : decide (s.kind = 3) = true) : bB s = (bif (bif (bif (bif ga 0 3 s.var then decide (s.event = 0) else false) then s.sum.zero else false) then s.index.term else false) then decide ((s.facts.length : Int) = 0) else false) := by
 rw [← kb3 s.sum.term s.index.term (cB s.facts 6) s.sum.zero s.index.zero (decide ((s.facts.length : Int) = 0)) (ga 0 3 s.var) (decide (s.var = 0)) (ga 0 3 s.event) (decide (s.event = 0)) bG bG fN, ← fM]
 cases s with
 | mk kind var event sum index facts =>
  have hk := of_decide_eq_true hk
  simp only at hk
  subst hk
  rfl
theorem kb4 : ∀ st it tf sz iz f0 v3 v0 e3 e0 : Bool, (sz = true → st = true) → (iz = true → it = true) → (f0 = true → tf = true) → lW true st it tf true sz true iz false (!f0) false v3 v0 false e3 e0 = (bif (bif (bif (bif v0 then e0 else false) then st else false) then it else false) then f0 else false) := by decide
theorem uz (s : Sm) (hk : decide (s.kind = 4) = true) : bB s = (bif (bif (bif (bif decide (s.var = 0) then decide (s.event = 0) else false) then s.sum.term else false) then s.index.term else false) then decide ((s.facts.length : Int) = 0) else false) := by
 rw [← kb4 s.sum.term s.index.term (cB s.facts 6) s.sum.zero s.index.zero (decide ((s.facts.length : Int) = 0)) (ga 0 3 s.var) (decide (s.var = 0)) (ga 0 3 s.event) (decide (s.event = 0)) bG bG fN, ← fM]
 cases s with
 | mk kind var event sum index facts =>
  have hk := of_decide_eq_true hk
  simp only at hk
  subst hk
  rfl
theorem kb5 : ∀ st it tf sz iz f0 v3 v0 e3 e0 : Bool, (sz = true → st = true) → (iz = true → it = true) → (f0 = true → tf = true) → lW true st it tf false sz false iz false (!f0) false v3 v0 true e3 e0 = (bif (bif (bif (bif v0 then e3 else false) then sz else false) then iz else false) then f0 else false) := by decide
theorem uy (s : Sm) (hk : decide (s.kind = 5) = true) : bB s = (bif (bif (bif (bif decide (s.var = 0) then ga 0 3 s.event else false) then s.sum.zero else false) then s.index.zero else false) then decide ((s.facts.length : Int) = 0) else false) := by
 rw [← kb5 s.sum.term s.index.term (cB s.facts 6) s.sum.zero s.index.zero (decide ((s.facts.length : Int) = 0)) (ga 0 3 s.var) (decide (s.var = 0)) (ga 0 3 s.event) (decide (s.event = 0)) bG bG fN, ← fM]
 cases s with
 | mk kind var event sum index facts =>
  have hk := of_decide_eq_true hk
  simp only at hk
  subst hk
  rfl
theorem kb6 : ∀ st it tf sz iz f0 v3 v0 e3 e0 : Bool, (sz = true → st = true) → (iz = true → it = true) → (f0 = true → tf = true) → lW true st it tf true sz false iz false (!f0) false v3 v0 false e3 e0 = (bif (bif (bif (bif v0 then e0 else false) then st else false) then iz else false) then f0 else false) := by decide
theorem ux (s : Sm) (hk : decide (s.kind = 6) = true) : bB s = (bif (bif (bif (bif decide (s.var = 0) then decide (s.event = 0) else false) then s.sum.term else false) then s.index.zero else false) then decide ((s.facts.length : Int) = 0) else false) := by
 rw [← kb6 s.sum.term s.index.term (cB s.facts 6) s.sum.zero s.index.zero (decide ((s.facts.length : Int) = 0)) (ga 0 3 s.var) (decide (s.var = 0)) (ga 0 3 s.event) (decide (s.event = 0)) bG bG fN, ← fM]
 cases s with
 | mk kind var event sum index facts =>
  have hk := of_decide_eq_true hk
  simp only at hk
  subst hk
  rfl
theorem kb7 : ∀ st it tf sz iz f0 v3 v0 e3 e0 : Bool, (sz = true → st = true) → (iz = true → it = true) → (f0 = true → tf = true) → lW true st it tf true sz false iz false (!f0) false v3 v0 false e3 e0 = (bif (bif (bif (bif v0 then e0 else false) then st else false) then iz else false) then f0 else false) := by decide
theorem uw (s : Sm) (hk : decide (s.kind = 7) = true) : bB s = (bif (bif (bif (bif decide (s.var = 0) then decide (s.event = 0) else false) then s.sum.term else false) then s.index.zero else false) then decide ((s.facts.length : Int) = 0) else false) := by
 rw [← kb7 s.sum.term s.index.term (cB s.facts 6) s.sum.zero s.index.zero (decide ((s.facts.length : Int) = 0)) (ga 0 3 s.var) (decide (s.var = 0)) (ga 0 3 s.event) (decide (s.event = 0)) bG bG fN, ← fM]
 cases s with
 | mk kind var event sum index facts =>
  have hk := of_decide_eq_true hk
  simp only at hk
  subst hk
  rfl
theorem kb8 : ∀ st it tf sz iz f0 v3 v0 e3 e0 : Bool, (sz = true → st = true) → (iz = true → it = true) → (f0 = true → tf = true) → lW true st it tf true sz false iz true (!f0) false v3 v0 false e3 e0 = (bif (bif (bif (bif v0 then e0 else false) then st else false) then iz else false) then tf else false) := by decide
theorem uv (s : Sm) (hk : decide (s.kind = 8) = true) : bB s = (bif (bif (bif (bif decide (s.var = 0) then decide (s.event = 0) else false) then s.sum.term else false) then s.index.zero else false) then cB s.facts 6 else false) := by
 rw [← kb8 s.sum.term s.index.term (cB s.facts 6) s.sum.zero s.index.zero (decide ((s.facts.length : Int) = 0)) (ga 0 3 s.var) (decide (s.var = 0)) (ga 0 3 s.event) (decide (s.event = 0)) bG bG fN, ← fM]
 cases s with
 | mk kind var event sum index facts =>
  have hk := of_decide_eq_true hk
  simp only at hk
  subst hk
  rfl
theorem wU {s : Sm} : MQ h1 h2 125 [ut s] [] (Plain (eI (bI s))) := by
 refine av ?_ Z
 refine jB 185 h1 h2 Tryz.func125 Z Z Z fun O hF => ?_
 refine ag (jx O Z Z Z Z Z Z Z Z (js O Z (jn (AWP.seq (f6 O [_,_,_,_,_,_,_,_,_,_,_,_,_,_,_,_,_,_,_,_,_] [pn [] 0 2, pn [0] 0 2, pn [0,1] 0 2, pn [] 0 2, pn [3] 0 2, pn [3,4] 0 2, pn [] 0 0, pn [6] 0 0, pe [6,7] 0, pn [] 0 1, pn [9] 0 1, pe [6,7,8,9,10] 1, pn [] 0 2, pn [12] 0 2, pn [12,13] 0 2, pn [12,13,14] 0 2, pn [0,1,2,6,7,8,9,10,11] 2 2, pn [0,1,2,3,4,5,6,7,8,9,10,11,16] 2 2, pn [0,1,2,3,4,5,6,7,8,9,10,11,16,17] 2 2, pn [0,1,2,3,4,5,6,7,8,9,10,11,16,17,18] 2 2, pn [0,1,2,3,4,5,6,7,8,9,10,11,12,13,14,15,16,17,18,19] 2 2] [8,11] [_,_,_] (ai (kc O Z (kc O Z (V O Z))) (ai (kc O Z (kc O Z (V O Z))) (ai (kc O Z (kc O Z (V O Z))) (ai (kc O Z (kc O Z (V O Z))) (ai (kc O Z (kc O Z (V O Z))) (ai (kc O Z (kc O Z (V O Z))) (kc O Z (kc O Z (ai (cb O (B0 := 18000) Z Z Z Z (uN h1 h2) (ab Z) Z Z Z Z Z) (ai (kc O Z (V O Z)) (ai (kc O Z (V O Z)) (ai (cb O (B0 := 21000) Z Z Z Z (uN h1 h2) (ab Z) Z Z Z Z Z) (ai (kc O Z (kc O Z (V O Z))) (ai (kc O Z (kc O Z (V O Z))) (ai (ai (cU O Z Z Z Z Z Z Z Z) (ai (cU O Z Z Z Z Z Z Z Z) (cU O Z Z Z Z Z Z Z Z))) (ai (kc O Z (kc O Z (V O Z))) (kc O Z (kc O Z (kc O Z (kc O Z (kc O Z trivial))))))))))))))))))))) ?_)))))
 refine jw [7,6,5,4,3,2,1,0] Z (bZ ?_)
 refine ag (js O Z (jn (AWP.seq (ag (j2 O Z Z (jn (AWP.block (ag (j2 O Z Z (jn (AWP.cond O Z Z (fun hc27 => ?_) (fun hc27 => ?_))))))))))))
 refine ag (j2 O Z Z (jf [30,28,26,25,8,7,6,5,4,3,2,1,0] Z (au 1 Z Z Z (fun hx => ac hx Z Z Z (V O Z) Z Z ( AN.nil)) Z Z ?_)))
 first | refine aa (ak O Z Z Z Z Z) Z Z Z ?_ | refine aa (aj O Z Z Z Z Z) Z Z Z ?_ | refine aa (Val.pickB O Z Z Z Z Z) Z Z Z ?_
 refine js O Z (jf [33,28,26,25,8,7,6,5,4,3,2,1,0] Z (au 1 Z Z Z (fun hx => ac hx Z Z Z (V O Z) Z Z ( AN.nil)) Z Z ?_))
 first | refine aa (ak O Z Z Z Z Z) Z Z Z ?_ | refine aa (aj O Z Z Z Z Z) Z Z Z ?_ | refine aa (Val.pickB O Z Z Z Z Z) Z Z Z ?_
 refine js O Z (jf [36,28,26,25,8,7,6,5,4,3,2,1,0] Z (au 1 Z Z Z (fun hx => ac hx Z Z Z (V O Z) Z Z ( AN.nil)) Z Z ?_))
 first | refine aa (ak O Z Z Z Z Z) Z Z Z ?_ | refine aa (aj O Z Z Z Z Z) Z Z Z ?_ | refine aa (Val.pickB O Z Z Z Z Z) Z Z Z ?_
 refine js O Z (jf [39,28,26,25,8,7,6,5,4,3,2,1,0] Z (au 1 Z Z Z (fun hx => ac hx Z Z Z (V O Z) Z Z ( AN.nil)) Z Z ?_))
 first | refine aa (ak O Z Z Z Z Z) Z Z Z ?_ | refine aa (aj O Z Z Z Z Z) Z Z Z ?_ | refine aa (Val.pickB O Z Z Z Z Z) Z Z Z ?_
 refine jf [41,28,26,25,8,7,6,5,4,3,2,1,0] Z (jn (AWP.cond O Z Z (fun hc41 => ?_) (fun hc41 => ?_)))
 refine AWP.region (js O Z (jn (ag (j2 O Z Z (jf [2,28,26,25,7,6,5,4,3,1,0] Z (jn (AWP.ret ?_)))))))
 refine ⟨.inl Z, _, Ent.refl, _, Z, ?_⟩
 rw [bI, uD s hc27, hc41]
 simp [bh, of_decide_eq_true hc27]
 refine AWP.skip (ag (j2 O Z Z (jf [2,28,26,25,7,6,5,4,3,1,0] Z (jn (AWP.ret ?_)))))
 refine ⟨.inl Z, _, Ent.refl, _, Z, ?_⟩
 rw [bI, uD s hc27, hc41]
 simp
 refine ag (j2 O Z Z (jf [42,28,26,25,8,7,6,5,4,3,2,1,0] Z (jn (AWP.cond O Z Z (fun hc42 => ?_) (fun hc42 => ?_)))))
 refine ag (j2 O Z Z (jf [45,28,26,25,8,7,6,5,4,3,2,1,0] Z (au 1 Z Z Z (fun hx => ac hx Z Z Z (V O Z) Z Z ( AN.nil)) Z Z ?_)))
 first | refine aa (ak O Z Z Z Z Z) Z Z Z ?_ | refine aa (aj O Z Z Z Z Z) Z Z Z ?_ | refine aa (Val.pickB O Z Z Z Z Z) Z Z Z ?_
 refine js O Z (jf [48,28,26,25,8,7,6,5,4,3,2,1,0] Z (au 1 Z Z Z (fun hx => ac hx Z Z Z (V O Z) Z Z ( AN.nil)) Z Z ?_))
 first | refine aa (ak O Z Z Z Z Z) Z Z Z ?_ | refine aa (aj O Z Z Z Z Z) Z Z Z ?_ | refine aa (Val.pickB O Z Z Z Z Z) Z Z Z ?_
 refine js O Z (jf [51,28,26,25,8,7,6,5,4,3,2,1,0] Z (au 1 Z Z Z (fun hx => ac hx Z Z Z (V O Z) Z Z ( AN.nil)) Z Z ?_))
 first | refine aa (ak O Z Z Z Z Z) Z Z Z ?_ | refine aa (aj O Z Z Z Z Z) Z Z Z ?_ | refine aa (Val.pickB O Z Z Z Z Z) Z Z Z ?_
 refine js O Z (jf [54,28,26,25,8,7,6,5,4,3,2,1,0] Z (au 1 Z Z Z (fun hx => ac hx Z Z Z (V O Z) Z Z ( AN.nil)) Z Z ?_))
 first | refine aa (ak O Z Z Z Z Z) Z Z Z ?_ | refine aa (aj O Z Z Z Z Z) Z Z Z ?_ | refine aa (Val.pickB O Z Z Z Z Z) Z Z Z ?_
 refine jf [56,28,26,25,8,7,6,5,4,3,2,1,0] Z (jn (AWP.cond O Z Z (fun hc56 => ?_) (fun hc56 => ?_)))
 refine AWP.region (js O Z (jn (ag (j2 O Z Z (jf [2,28,26,25,7,6,5,4,3,1,0] Z (jn (AWP.ret ?_)))))))
 refine ⟨.inl Z, _, Ent.refl, _, Z, ?_⟩
 rw [bI, uC s hc42, hc56]
 simp [bh, of_decide_eq_true hc42]
 refine AWP.skip (ag (j2 O Z Z (jf [2,28,26,25,7,6,5,4,3,1,0] Z (jn (AWP.ret ?_)))))
 refine ⟨.inl Z, _, Ent.refl, _, Z, ?_⟩
 rw [bI, uC s hc42, hc56]
 simp
 refine ag (j2 O Z Z (jf [57,28,26,25,8,7,6,5,4,3,2,1,0] Z (jn (AWP.cond O Z Z (fun hc57 => ?_) (fun hc57 => ?_)))))
 refine ag (j2 O Z Z (jf [60,28,26,25,8,7,6,5,4,3,2,1,0] Z (ae O Z Z Z Z (uR h1 h2) (ab Z) Z Z Z Z Z (B0 := 62000) Z (js O Z (jf [62,28,26,25,8,7,6,5,4,3,2,1,0] Z (au 1 Z Z Z (fun hx => ac hx Z Z Z (V O Z) Z Z ( AN.nil)) Z Z ?_))))))
 first | refine aa (ak O Z Z Z Z Z) Z Z Z ?_ | refine aa (aj O Z Z Z Z Z) Z Z Z ?_ | refine aa (Val.pickB O Z Z Z Z Z) Z Z Z ?_
 refine js O Z (jf [65,28,26,25,8,7,6,5,4,3,2,1,0] Z (au 3 Z Z Z (fun hx => ac hx Z Z Z (V O Z) Z Z ( ac hx Z Z Z (V O Z) Z Z ( bv O hx Z Z Z Z (mK h1 h2) (ab Z) Z Z Z Z Z Z Z (B0 := 69000) Z ( AN.nil)))) Z Z ?_))
 first | refine aa (ak O Z Z Z Z Z) Z Z Z ?_ | refine aa (aj O Z Z Z Z Z) Z Z Z ?_ | refine aa (Val.pickB O Z Z Z Z Z) Z Z Z ?_
 refine js O Z (jf [70,28,26,25,8,7,6,5,4,3,2,1,0] Z (au 1 Z Z Z (fun hx => ac hx Z Z Z (V O Z) Z Z ( AN.nil)) Z Z ?_))
 first | refine aa (ak O Z Z Z Z Z) Z Z Z ?_ | refine aa (aj O Z Z Z Z Z) Z Z Z ?_ | refine aa (Val.pickB O Z Z Z Z Z) Z Z Z ?_
 refine js O Z (jf [73,28,26,25,8,7,6,5,4,3,2,1,0] Z (au 1 Z Z Z (fun hx => ac hx Z Z Z (V O Z) Z Z ( AN.nil)) Z Z ?_))
 first | refine aa (ak O Z Z Z Z Z) Z Z Z ?_ | refine aa (aj O Z Z Z Z Z) Z Z Z ?_ | refine aa (Val.pickB O Z Z Z Z Z) Z Z Z ?_
 refine jf [75,28,26,25,8,7,6,5,4,3,2,1,0] Z (jn (AWP.cond O Z Z (fun hc75 => ?_) (fun hc75 => ?_)))
 refine AWP.region (js O Z (jn (ag (j2 O Z Z (jf [2,28,26,25,7,6,5,4,3,1,0] Z (jn (AWP.ret ?_)))))))
 refine ⟨.inl Z, _, Ent.refl, _, Z, ?_⟩
 rw [bI, uB s hc57, hc75]
 simp [bh, of_decide_eq_true hc57]
 refine AWP.skip (ag (j2 O Z Z (jf [2,28,26,25,7,6,5,4,3,1,0] Z (jn (AWP.ret ?_)))))
 refine ⟨.inl Z, _, Ent.refl, _, Z, ?_⟩
 rw [bI, uB s hc57, hc75]
 simp
 refine ag (j2 O Z Z (jf [76,28,26,25,8,7,6,5,4,3,2,1,0] Z (jn (AWP.cond O Z Z (fun hc76 => ?_) (fun hc76 => ?_)))))
 refine ag (j2 O Z Z (jf [79,28,26,25,8,7,6,5,4,3,2,1,0] Z (ae O Z Z Z Z (uR h1 h2) (ab Z) Z Z Z Z Z (B0 := 81000) Z (js O Z (jf [81,28,26,25,8,7,6,5,4,3,2,1,0] Z (au 1 Z Z Z (fun hx => ac hx Z Z Z (V O Z) Z Z ( AN.nil)) Z Z ?_))))))
 first | refine aa (ak O Z Z Z Z Z) Z Z Z ?_ | refine aa (aj O Z Z Z Z Z) Z Z Z ?_ | refine aa (Val.pickB O Z Z Z Z Z) Z Z Z ?_
 refine js O Z (jf [84,28,26,25,8,7,6,5,4,3,2,1,0] Z (au 1 Z Z Z (fun hx => ac hx Z Z Z (V O Z) Z Z ( AN.nil)) Z Z ?_))
 first | refine aa (ak O Z Z Z Z Z) Z Z Z ?_ | refine aa (aj O Z Z Z Z Z) Z Z Z ?_ | refine aa (Val.pickB O Z Z Z Z Z) Z Z Z ?_
 refine js O Z (jf [87,28,26,25,8,7,6,5,4,3,2,1,0] Z (au 3 Z Z Z (fun hx => ac hx Z Z Z (V O Z) Z Z ( ac hx Z Z Z (V O Z) Z Z ( bv O hx Z Z Z Z (mK h1 h2) (ab Z) Z Z Z Z Z Z Z (B0 := 91000) Z ( AN.nil)))) Z Z ?_))
 first | refine aa (ak O Z Z Z Z Z) Z Z Z ?_ | refine aa (aj O Z Z Z Z Z) Z Z Z ?_ | refine aa (Val.pickB O Z Z Z Z Z) Z Z Z ?_
 refine js O Z (jf [92,28,26,25,8,7,6,5,4,3,2,1,0] Z (au 1 Z Z Z (fun hx => ac hx Z Z Z (V O Z) Z Z ( AN.nil)) Z Z ?_))
 first | refine aa (ak O Z Z Z Z Z) Z Z Z ?_ | refine aa (aj O Z Z Z Z Z) Z Z Z ?_ | refine aa (Val.pickB O Z Z Z Z Z) Z Z Z ?_
 refine jf [94,28,26,25,8,7,6,5,4,3,2,1,0] Z (jn (AWP.cond O Z Z (fun hc94 => ?_) (fun hc94 => ?_)))
 refine AWP.region (js O Z (jn (ag (j2 O Z Z (jf [2,28,26,25,7,6,5,4,3,1,0] Z (jn (AWP.ret ?_)))))))
 refine ⟨.inl Z, _, Ent.refl, _, Z, ?_⟩
 rw [bI, uA s hc76, hc94]
 simp [bh, of_decide_eq_true hc76]
 refine AWP.skip (ag (j2 O Z Z (jf [2,28,26,25,7,6,5,4,3,1,0] Z (jn (AWP.ret ?_)))))
 refine ⟨.inl Z, _, Ent.refl, _, Z, ?_⟩
 rw [bI, uA s hc76, hc94]
 simp
 refine ag (j2 O Z Z (jf [95,28,26,25,8,7,6,5,4,3,2,1,0] Z (jn (AWP.cond O Z Z (fun hc95 => ?_) (fun hc95 => ?_)))))
 refine ag (j2 O Z Z (jf [98,28,26,25,8,7,6,5,4,3,2,1,0] Z (au 1 Z Z Z (fun hx => ac hx Z Z Z (V O Z) Z Z ( AN.nil)) Z Z ?_)))
 first | refine aa (ak O Z Z Z Z Z) Z Z Z ?_ | refine aa (aj O Z Z Z Z Z) Z Z Z ?_ | refine aa (Val.pickB O Z Z Z Z Z) Z Z Z ?_
 refine js O Z (jf [101,28,26,25,8,7,6,5,4,3,2,1,0] Z (au 3 Z Z Z (fun hx => ac hx Z Z Z (V O Z) Z Z ( ac hx Z Z Z (V O Z) Z Z ( bv O hx Z Z Z Z (mK h1 h2) (ab Z) Z Z Z Z Z Z Z (B0 := 105000) Z ( AN.nil)))) Z Z ?_))
 first | refine aa (ak O Z Z Z Z Z) Z Z Z ?_ | refine aa (aj O Z Z Z Z Z) Z Z Z ?_ | refine aa (Val.pickB O Z Z Z Z Z) Z Z Z ?_
 refine js O Z (jf [106,28,26,25,8,7,6,5,4,3,2,1,0] Z (au 3 Z Z Z (fun hx => ac hx Z Z Z (V O Z) Z Z ( ac hx Z Z Z (V O Z) Z Z ( bv O hx Z Z Z Z (mK h1 h2) (ab Z) Z Z Z Z Z Z Z (B0 := 110000) Z ( AN.nil)))) Z Z ?_))
 first | refine aa (ak O Z Z Z Z Z) Z Z Z ?_ | refine aa (aj O Z Z Z Z Z) Z Z Z ?_ | refine aa (Val.pickB O Z Z Z Z Z) Z Z Z ?_
 refine js O Z (jf [111,28,26,25,8,7,6,5,4,3,2,1,0] Z (au 1 Z Z Z (fun hx => ac hx Z Z Z (V O Z) Z Z ( AN.nil)) Z Z ?_))
 first | refine aa (ak O Z Z Z Z Z) Z Z Z ?_ | refine aa (aj O Z Z Z Z Z) Z Z Z ?_ | refine aa (Val.pickB O Z Z Z Z Z) Z Z Z ?_
 refine jf [113,28,26,25,8,7,6,5,4,3,2,1,0] Z (jn (AWP.cond O Z Z (fun hc113 => ?_) (fun hc113 => ?_)))
 refine AWP.region (js O Z (jn (ag (j2 O Z Z (jf [2,28,26,25,7,6,5,4,3,1,0] Z (jn (AWP.ret ?_)))))))
 refine ⟨.inl Z, _, Ent.refl, _, Z, ?_⟩
 rw [bI, uz s hc95, hc113]
 simp [bh, of_decide_eq_true hc95]
 refine AWP.skip (ag (j2 O Z Z (jf [2,28,26,25,7,6,5,4,3,1,0] Z (jn (AWP.ret ?_)))))
 refine ⟨.inl Z, _, Ent.refl, _, Z, ?_⟩
 rw [bI, uz s hc95, hc113]
 simp
 refine ag (j2 O Z Z (jf [114,28,26,25,8,7,6,5,4,3,2,1,0] Z (jn (AWP.cond O Z Z (fun hc114 => ?_) (fun hc114 => ?_)))))
 refine ag (j2 O Z Z (jf [117,28,26,25,8,7,6,5,4,3,2,1,0] Z (au 3 Z Z Z (fun hx => ac hx Z Z Z (V O Z) Z Z ( ac hx Z Z Z (V O Z) Z Z ( bv O hx Z Z Z Z (wT h1 h2) (ab Z) Z Z Z Z Z Z Z (B0 := 121000) Z ( AN.nil)))) Z Z ?_)))
 first | refine aa (ak O Z Z Z Z Z) Z Z Z ?_ | refine aa (aj O Z Z Z Z Z) Z Z Z ?_ | refine aa (Val.pickB O Z Z Z Z Z) Z Z Z ?_
 refine js O Z (jf [122,28,26,25,8,7,6,5,4,3,2,1,0] Z (au 1 Z Z Z (fun hx => ac hx Z Z Z (V O Z) Z Z ( AN.nil)) Z Z ?_))
 first | refine aa (ak O Z Z Z Z Z) Z Z Z ?_ | refine aa (aj O Z Z Z Z Z) Z Z Z ?_ | refine aa (Val.pickB O Z Z Z Z Z) Z Z Z ?_
 refine js O Z (jf [125,28,26,25,8,7,6,5,4,3,2,1,0] Z (au 1 Z Z Z (fun hx => ac hx Z Z Z (V O Z) Z Z ( AN.nil)) Z Z ?_))
 first | refine aa (ak O Z Z Z Z Z) Z Z Z ?_ | refine aa (aj O Z Z Z Z Z) Z Z Z ?_ | refine aa (Val.pickB O Z Z Z Z Z) Z Z Z ?_
 refine js O Z (jf [128,28,26,25,8,7,6,5,4,3,2,1,0] Z (au 1 Z Z Z (fun hx => ac hx Z Z Z (V O Z) Z Z ( AN.nil)) Z Z ?_))
 first | refine aa (ak O Z Z Z Z Z) Z Z Z ?_ | refine aa (aj O Z Z Z Z Z) Z Z Z ?_ | refine aa (Val.pickB O Z Z Z Z Z) Z Z Z ?_
 refine jf [130,28,26,25,8,7,6,5,4,3,2,1,0] Z (jn (AWP.cond O Z Z (fun hc130 => ?_) (fun hc130 => ?_)))
 refine AWP.region (js O Z (jn (ag (j2 O Z Z (jf [2,28,26,25,7,6,5,4,3,1,0] Z (jn (AWP.ret ?_)))))))
 refine ⟨.inl Z, _, Ent.refl, _, Z, ?_⟩
 rw [bI, uy s hc114, hc130]
 simp [bh, of_decide_eq_true hc114]
 refine AWP.skip (ag (j2 O Z Z (jf [2,28,26,25,7,6,5,4,3,1,0] Z (jn (AWP.ret ?_)))))
 refine ⟨.inl Z, _, Ent.refl, _, Z, ?_⟩
 rw [bI, uy s hc114, hc130]
 simp
 refine ag (j2 O Z Z (jf [131,28,26,25,8,7,6,5,4,3,2,1,0] Z (jn (AWP.cond O Z Z (fun hc131 => ?_) (fun hc131 => ?_)))))
 refine ag (j2 O Z Z (jf [134,28,26,25,8,7,6,5,4,3,2,1,0] Z (au 1 Z Z Z (fun hx => ac hx Z Z Z (V O Z) Z Z ( AN.nil)) Z Z ?_)))
 first | refine aa (ak O Z Z Z Z Z) Z Z Z ?_ | refine aa (aj O Z Z Z Z Z) Z Z Z ?_ | refine aa (Val.pickB O Z Z Z Z Z) Z Z Z ?_
 refine js O Z (jf [137,28,26,25,8,7,6,5,4,3,2,1,0] Z (au 3 Z Z Z (fun hx => ac hx Z Z Z (V O Z) Z Z ( ac hx Z Z Z (V O Z) Z Z ( bv O hx Z Z Z Z (mK h1 h2) (ab Z) Z Z Z Z Z Z Z (B0 := 141000) Z ( AN.nil)))) Z Z ?_))
 first | refine aa (ak O Z Z Z Z Z) Z Z Z ?_ | refine aa (aj O Z Z Z Z Z) Z Z Z ?_ | refine aa (Val.pickB O Z Z Z Z Z) Z Z Z ?_
 refine js O Z (jf [142,28,26,25,8,7,6,5,4,3,2,1,0] Z (au 1 Z Z Z (fun hx => ac hx Z Z Z (V O Z) Z Z ( AN.nil)) Z Z ?_))
 first | refine aa (ak O Z Z Z Z Z) Z Z Z ?_ | refine aa (aj O Z Z Z Z Z) Z Z Z ?_ | refine aa (Val.pickB O Z Z Z Z Z) Z Z Z ?_
 refine js O Z (jf [145,28,26,25,8,7,6,5,4,3,2,1,0] Z (au 1 Z Z Z (fun hx => ac hx Z Z Z (V O Z) Z Z ( AN.nil)) Z Z ?_))
 first | refine aa (ak O Z Z Z Z Z) Z Z Z ?_ | refine aa (aj O Z Z Z Z Z) Z Z Z ?_ | refine aa (Val.pickB O Z Z Z Z Z) Z Z Z ?_
 refine jf [147,28,26,25,8,7,6,5,4,3,2,1,0] Z (jn (AWP.cond O Z Z (fun hc147 => ?_) (fun hc147 => ?_)))
 refine AWP.region (js O Z (jn (ag (j2 O Z Z (jf [2,28,26,25,7,6,5,4,3,1,0] Z (jn (AWP.ret ?_)))))))
 refine ⟨.inl Z, _, Ent.refl, _, Z, ?_⟩
 rw [bI, ux s hc131, hc147]
 simp [bh, of_decide_eq_true hc131]
 refine AWP.skip (ag (j2 O Z Z (jf [2,28,26,25,7,6,5,4,3,1,0] Z (jn (AWP.ret ?_)))))
 refine ⟨.inl Z, _, Ent.refl, _, Z, ?_⟩
 rw [bI, ux s hc131, hc147]
 simp
 refine ag (j2 O Z Z (jf [148,28,26,25,8,7,6,5,4,3,2,1,0] Z (jn (AWP.cond O Z Z (fun hc148 => ?_) (fun hc148 => ?_)))))
 refine ag (j2 O Z Z (jf [151,28,26,25,8,7,6,5,4,3,2,1,0] Z (au 1 Z Z Z (fun hx => ac hx Z Z Z (V O Z) Z Z ( AN.nil)) Z Z ?_)))
 first | refine aa (ak O Z Z Z Z Z) Z Z Z ?_ | refine aa (aj O Z Z Z Z Z) Z Z Z ?_ | refine aa (Val.pickB O Z Z Z Z Z) Z Z Z ?_
 refine js O Z (jf [154,28,26,25,8,7,6,5,4,3,2,1,0] Z (au 3 Z Z Z (fun hx => ac hx Z Z Z (V O Z) Z Z ( ac hx Z Z Z (V O Z) Z Z ( bv O hx Z Z Z Z (mK h1 h2) (ab Z) Z Z Z Z Z Z Z (B0 := 158000) Z ( AN.nil)))) Z Z ?_))
 first | refine aa (ak O Z Z Z Z Z) Z Z Z ?_ | refine aa (aj O Z Z Z Z Z) Z Z Z ?_ | refine aa (Val.pickB O Z Z Z Z Z) Z Z Z ?_
 refine js O Z (jf [159,28,26,25,8,7,6,5,4,3,2,1,0] Z (au 1 Z Z Z (fun hx => ac hx Z Z Z (V O Z) Z Z ( AN.nil)) Z Z ?_))
 first | refine aa (ak O Z Z Z Z Z) Z Z Z ?_ | refine aa (aj O Z Z Z Z Z) Z Z Z ?_ | refine aa (Val.pickB O Z Z Z Z Z) Z Z Z ?_
 refine js O Z (jf [162,28,26,25,8,7,6,5,4,3,2,1,0] Z (au 1 Z Z Z (fun hx => ac hx Z Z Z (V O Z) Z Z ( AN.nil)) Z Z ?_))
 first | refine aa (ak O Z Z Z Z Z) Z Z Z ?_ | refine aa (aj O Z Z Z Z Z) Z Z Z ?_ | refine aa (Val.pickB O Z Z Z Z Z) Z Z Z ?_
 refine jf [164,28,26,25,8,7,6,5,4,3,2,1,0] Z (jn (AWP.cond O Z Z (fun hc164 => ?_) (fun hc164 => ?_)))
 refine AWP.region (js O Z (jn (ag (j2 O Z Z (jf [2,28,26,25,7,6,5,4,3,1,0] Z (jn (AWP.ret ?_)))))))
 refine ⟨.inl Z, _, Ent.refl, _, Z, ?_⟩
 rw [bI, uw s hc148, hc164]
 simp [bh, of_decide_eq_true hc148]
 refine AWP.skip (ag (j2 O Z Z (jf [2,28,26,25,7,6,5,4,3,1,0] Z (jn (AWP.ret ?_)))))
 refine ⟨.inl Z, _, Ent.refl, _, Z, ?_⟩
 rw [bI, uw s hc148, hc164]
 simp
 refine ag (j2 O Z Z (jf [165,28,26,25,8,7,6,5,4,3,2,1,0] Z (jn (AWP.cond O Z Z (fun hc165 => ?_) (fun hc165 => ?_)))))
 refine ag (j2 O Z Z (jf [168,28,26,25,8,7,6,5,4,3,2,1,0] Z (au 1 Z Z Z (fun hx => ac hx Z Z Z (V O Z) Z Z ( AN.nil)) Z Z ?_)))
 first | refine aa (ak O Z Z Z Z Z) Z Z Z ?_ | refine aa (aj O Z Z Z Z Z) Z Z Z ?_ | refine aa (Val.pickB O Z Z Z Z Z) Z Z Z ?_
 refine js O Z (jf [171,28,26,25,8,7,6,5,4,3,2,1,0] Z (au 3 Z Z Z (fun hx => ac hx Z Z Z (V O Z) Z Z ( ac hx Z Z Z (V O Z) Z Z ( bv O hx Z Z Z Z (mK h1 h2) (ab Z) Z Z Z Z Z Z Z (B0 := 175000) Z ( AN.nil)))) Z Z ?_))
 first | refine aa (ak O Z Z Z Z Z) Z Z Z ?_ | refine aa (aj O Z Z Z Z Z) Z Z Z ?_ | refine aa (Val.pickB O Z Z Z Z Z) Z Z Z ?_
 refine js O Z (jf [176,28,26,25,8,7,6,5,4,3,2,1,0] Z (au 1 Z Z Z (fun hx => ac hx Z Z Z (V O Z) Z Z ( AN.nil)) Z Z ?_))
 first | refine aa (ak O Z Z Z Z Z) Z Z Z ?_ | refine aa (aj O Z Z Z Z Z) Z Z Z ?_ | refine aa (Val.pickB O Z Z Z Z Z) Z Z Z ?_
 refine js O Z (jf [179,28,26,25,8,7,6,5,4,3,2,1,0] Z (au 3 Z Z Z (fun hx => ac hx Z Z Z (V O Z) Z Z ( ac hx Z Z Z (V O Z) Z Z ( bv O hx Z Z Z Z (s4 h1 h2) (ab Z) Z Z Z Z Z Z Z (B0 := 183000) Z ( AN.nil)))) Z Z ?_))
 first | refine aa (ak O Z Z Z Z Z) Z Z Z ?_ | refine aa (aj O Z Z Z Z Z) Z Z Z ?_ | refine aa (Val.pickB O Z Z Z Z Z) Z Z Z ?_
 refine jf [183,28,26,25,8,7,6,5,4,3,2,1,0] Z (jn (AWP.cond O Z Z (fun hc183 => ?_) (fun hc183 => ?_)))
 refine AWP.region (js O Z (jn (ag (j2 O Z Z (jf [2,28,26,25,7,6,5,4,3,1,0] Z (jn (AWP.ret ?_)))))))
 refine ⟨.inl Z, _, Ent.refl, _, Z, ?_⟩
 rw [bI, uv s hc165, hc183]
 simp [bh, of_decide_eq_true hc165]
 refine AWP.skip (ag (j2 O Z Z (jf [2,28,26,25,7,6,5,4,3,1,0] Z (jn (AWP.ret ?_)))))
 refine ⟨.inl Z, _, Ent.refl, _, Z, ?_⟩
 rw [bI, uv s hc165, hc183]
 simp
 refine AWP.skip (ag (j2 O Z Z (jf [2,28,26,25,7,6,5,4,3,1,0] Z (jn (AWP.ret ?_)))))
 refine ⟨.inl Z, _, Ent.refl, _, Z, ?_⟩
 have hn : (decide (0 ≤ s.kind) && decide (s.kind ≤ 8)) = false := by
  have := of_decide_eq_false hc27
  have := of_decide_eq_false hc42
  have := of_decide_eq_false hc57
  have := of_decide_eq_false hc76
  have := of_decide_eq_false hc95
  have := of_decide_eq_false hc114
  have := of_decide_eq_false hc131
  have := of_decide_eq_false hc148
  have := of_decide_eq_false hc165
  rw [← Bool.not_eq_true]; intro h; simp only [Bool.and_eq_true, decide_eq_true_eq] at h; omega
 rw [bI, bB, show qh s = true by unfold qh; rw [hn]; rfl]; rfl
inductive Tr where
  | node (s : Sm) (at_ : Int) (kids : List Tr)
mutual
def Tr.d : Tr → D
  | .node s a ks => .ptr [.int .i64 s.kind, .int .i64 s.var, .int .i64 s.event, .int .i64 s.sum.c, bp s.sum.xs, .int .i64 s.index.c, bp s.index.xs, bX s.facts, .int .i64 a, .slc 1 (Trs.d ks)] 0
def Trs.d : List Tr → List (List D)
  | [] => []
  | t :: r => [t.d] :: Trs.d r
end
theorem ew : ∀ {ts : List Tr}, (Trs.d ts).length = ts.length
 | [] => rfl
 | t :: r => by simp [Trs.d, ew]
theorem kS : ∀ {ts : List Tr} {t : Tr}, Trs.d (ts ++ [t]) = Trs.d ts ++ [[t.d]]
 | [], t => rfl
 | u :: r, t => by simp [Trs.d, kS]
def bV (f : Nat → Option (Tr × Nat)) : Nat → Nat → Option (List Tr × Nat)
  | 0, k => some ([], k)
  | q + 1, k => match f k with
    | none => none
    | some (t, k') => (bV f q k').map fun r => (t :: r.1, r.2)
def bT : Nat → List Sm → Nat → Option (Tr × Nat)
  | 0, _, _ => none
  | n + 1, body, k => if body.length ≤ k then none else if bI (body.getD k default) < 0 then none else
      (bV (bT n body) (bI (body.getD k default)).toNat (k + 1)).map fun r => (.node (body.getD k default) k r.1, r.2)
theorem cx {f : Nat → Option (Tr × Nat)} {q k k' : Nat} {t : Tr} (h : f k = some (t, k')) : bV f (q + 1) k = (bV f q k').map fun r => (t :: r.1, r.2) := by rw [bV, h]
theorem cW {f : Nat → Option (Tr × Nat)} {q k : Nat} (h : f k = none) : bV f (q + 1) k = none := by rw [bV, h]
theorem m7 {f : Nat → Option (Tr × Nat)} {N : Nat} (hf : ∀ k t k', f k = some (t, k') → k < k' ∧ k' ≤ N) : ∀ {q k ts k'}, bV f q k = some (ts, k') → k ≤ N → k ≤ k' ∧ k' ≤ N
 | 0, k, ts, k', h, hk => by simp [bV] at h; omega
 | q + 1, k, ts, k', h, hk => by
  unfold bV at h
  cases hx : f k with
  | none => rw [hx] at h; cases h
  | some x =>
   obtain ⟨t, k1⟩ := x
   rw [hx] at h
   simp only [Option.map_eq_some_iff] at h
   obtain ⟨⟨ts1, k2⟩, h1, h2⟩ := h
   simp only [Prod.mk.injEq] at h2
   have h3 := hf k t k1 hx
   have h4 := m7 hf h1 h3.2
   omega
theorem eN : ∀ {n body k t k'}, bT n body k = some (t, k') → k < k' ∧ k' ≤ body.length
 | 0, _, _, _, _, h => by cases h
 | n + 1, body, k, t, k', h => by
  unfold bT at h
  split at h
  cases h
  split at h
  cases h
  simp only [Option.map_eq_some_iff] at h
  obtain ⟨⟨ts1, k2⟩, h1, h2⟩ := h
  simp only [Prod.mk.injEq] at h2
  have := m7 (N := body.length) (fun k t k' h => eN h) h1 (by omega)
  omega
abbrev tP (r : Option (Tr × Nat)) : D := match r with | some (t, _) => t.d | none => .nilp
abbrev tN (r : Option (Tr × Nat)) : Int := match r with | some (_, k) => k | none => 0
abbrev tB (r : Option (Tr × Nat)) : Bool := match r with | some _ => true | none => false
abbrev sQ (r : Option (Tr × Nat)) : A := .tup [.c (.d (tP r)), eI (tN r), eB (tB r)]
theorem o9 {r : Option (Tr × Nat)} (h : tB r = true) : ∃ t k, r = some (t, k) := by
 cases r with
 | none => cases h
 | some x => exact ⟨x.1, x.2, Z⟩
theorem qW {r : Option (Tr × Nat)} (h : tB r = false) : r = none := by
 cases r with
 | none => rfl
 | some x => cases h
theorem rd (s : Sm) : bI s ≤ 2 := by
 unfold bI; split
 exact (cm _).2
 decide
theorem vw {body : List Sm} {n k : Nat} (hk : k ≤ body.length) (hn : body.length < n + 1 + k) (ih : ∀ k', k' ≤ body.length → body.length < n + k' → MQ h1 h2 101 [.c (.d (eZ body)), eI k'] [] (Plain (sQ (bT n body k')))) : MQ h1 h2 101 [.c (.d (eZ body)), eI k] [] (Plain (sQ (bT (n + 1) body k))) := by
 refine jB 58 h1 h2 Tryz.func101 Z Z Z fun O hF => ?_
 have hl : body.length ≤ L := by simpa [As.fact, A.fact, M.fact, D.fact, Ds.fact] using hF.1.1
 refine ag (j3 O Z Z Z (jn (AWP.seq (ag (j2 O Z Z ?_)))))
 first | refine cy O Z Z Z Z Z Z Z Z Z Z Z ?_ | refine js O Z ?_ | refine aY O Z Z Z Z Z ?_
 refine js O Z (jf [15,6,5,4,0,1] Z (jn (AWP.cond O Z Z (fun hc15 => ?_) (fun hc15 => ?_))))
 try simp only [bg] at hc15
 refine ag (j3 O Z Z Z (jn (AWP.ret ?_)))
 refine ⟨.inl Z, _, aT [] Z Z (e' := [(4, .c (.d .nilp)), (5, eI 0), (6, eB false)]) ⟨Z, Z, Z, trivial⟩ Z, _, Z, ?_, Z⟩
 rw [show bT (n + 1) body k = none from if_pos (by omega)]
 try simp only [bg] at hc15
 refine AWP.skip (ag (j2 O Z Z ?_))
 first | refine dR O Z Z Z Z Z Z Z Z Z Z Z ?_ | refine aY O Z Z Z Z Z ?_
 refine js O Z (jf [19,6,5,4,0,1] Z (ae O Z Z Z Z (wU h1 h2) (ab Z) Z Z Z Z Z (B0 := 21000) Z (js O Z (jf [7,6,5,4,0,1] Z (jn (AWP.seq (ag (j2 O Z Z (jn (AWP.cond O Z Z (fun hc22 => ?_) (fun hc22 => ?_)))))))))))
 try simp only [bg] at hc22
 refine ag (j3 O Z Z Z (jn (AWP.ret ?_)))
 refine ⟨.inl Z, _, aT [] Z Z (e' := [(4, .c (.d .nilp)), (5, eI 0), (6, eB false)]) ⟨Z, Z, Z, trivial⟩ Z, _, Z, ?_, Z⟩
 rw [show bT (n + 1) body k = none by unfold bT; rw [if_neg (by omega)]; exact if_pos hc22]
 try simp only [bg] at hc22
 refine AWP.skip (ag (j2 O Z Z ?_))
 first | refine dR O Z Z Z Z Z Z Z Z Z Z Z ?_ | refine aY O Z Z Z Z Z ?_
 refine j3 O Z Z Z (jf [28,21,7,6,5,4,0,1] Z (jx O Z Z Z Z Z Z Z Z (aq ?_)))
 refine js O Z (jf [8,21,7,6,5,4,0,1] Z (aP (js O Z ?_)))
 first | refine ji O Z ?_ | refine aY O Z Z Z Z Z ?_
 refine js O Z (jf [1,8,21,7,6,5,4,0] Z (jn (AWP.seq (AWP.block (az (X := Nat × Nat × List Tr) (fun x => ⟨[(0, .c (.d (eZ body))), (1, eI x.2.1), (7, eI x.1), (8, .c (.pt 29 0 0))], [(29, .box [.d (.int .i64 (body.getD k default).kind), .d (.int .i64 (body.getD k default).var), .d (.int .i64 (body.getD k default).event), .d (.int .i64 (body.getD k default).sum.c), .d (bp (body.getD k default).sum.xs), .d (.int .i64 (body.getD k default).index.c), .d (bp (body.getD k default).index.xs), .d (bX (body.getD k default).facts), .d (.int .i64 k), .rs 700 0 x.2.2.length]), (700, .row false 1 (Trs.d x.2.2))]⟩) (fun x => x.2.1 ≤ body.length ∧ k < x.2.1 ∧ bV (bT n body) (bI (body.getD k default)).toNat (k + 1) = (bV (bT n body) x.1 x.2.1).map (fun r => (x.2.2 ++ r.1, r.2)) ∧ x.2.2.length + x.1 ≤ 2) (fun x => x.1) ((bI (body.getD k default)).toNat, k + 1, []) ((cE 29 700 1 false 9 Z Z Z).trans (Ent.to ⟨Z, Z, congrArg (fun z => some (eI z)) (Int.toNat_of_nonneg hc22).symm, Z, trivial⟩ Z)) ?_ (fun x hi => ?_))))))
 exact ⟨(show k + 1 ≤ body.length by omega), Nat.lt_succ_self k, by simp, by have := rd (body.getD k default); show 0 + (bI (body.getD k default)).toNat ≤ 2; omega⟩
 refine AWP.seq (ag (j2 O Z Z (jn (AWP.cond O Z Z (fun hc33 => ?_) (fun hc33 => ?_)))))
 try simp only [bg] at hc33
 refine AWP.skip (AWP.seq (AWP.block (ag (j2 O Z Z (ao O Z Z Z Z (ih x.2.1 hi.1 (by omega)) (ab Z) Z Z Z Z (B0 := 40000) Z Z (j4 O Z Z Z Z (j3 O Z Z Z (jf [11,10,9,33,32,0,1,7,8] Z (jn (AWP.seq (ag (j2 O Z Z (jf [44,10,9,33,32,0,1,7,8] Z ?_)))))))))))))
 refine jn (AWP.cond O Z Z (fun hc44 => ?_) (fun hc44 => ?_))
 try simp only [bg] at hc44
 refine ag (j3 O Z Z Z (jn (AWP.ret ?_)))
 refine ⟨.inl Z, _, aT [] Z Z (e' := [(4, .c (.d .nilp)), (5, eI 0), (6, eB false)]) ⟨Z, Z, Z, trivial⟩ Z, _, Z, ?_, Z⟩
 have e0 := qW hc44
 rw [Int.toNat_natCast] at hc22
 rw [show bT (n + 1) body k = none by
  unfold bT
  rw [if_neg (by omega), if_neg (by omega), hi.2.2.1]
  obtain ⟨q, hq⟩ : ∃ q, x.1 = q + 1 := ⟨x.1 - 1, by omega⟩
  rw [hq, cW e0]; rfl]
 try simp only [bg] at hc44
 refine AWP.skip (ag ?_)
 obtain ⟨t1, k1, hr⟩ := o9 hc44
 obtain ⟨s1, a1, ks1⟩ := t1
 rw [hr]
 refine j4 O Z Z Z Z (j2 O Z Z (jf [50,49,45,44,10,33,32,0,1,7,8] Z (AOps.heap (bE O Z Z Z) Z (aq ?_))))
 refine jf [51,49,45,44,10,33,32,0,1,7,8] Z (AOps.heap (bD (own := false) O Z Z Z Z Z Z Z Z Z Z Z Z Z Z Z Z (.row Z ew.symm) (.whole Z Z (.inr ⟨Z, Z⟩)) (by simp) Z (by rw [ew]; show x.2.2.length + 1 ≤ L; omega) (by rw [ew]; show (x.2.2.length + 1) * 8 ≤ _; omega) Z (by rw [List.length_append, ew])) Z (aq ?_))
 refine j2 O Z Z (jf [54,52,44,10,33,32,0,1,7,8] Z (jo O Z Z Z Z Z Z Z Z Z Z Z Z (aq ?_)))
 refine jf [44,10,33,32,0,1,7,8] Z (jn (AWP.region (j2 O Z Z (jf [1,44,33,32,0,7,8] Z (jn (AWP.region (js O Z ?_)))))))
 first | refine ji O Z ?_ | refine aY O Z Z Z Z Z ?_
 refine js O Z (jf [7,1,44,33,32,0,8] Z (jn ?_))
 refine ⟨(x.1 - 1, k1, x.2.2 ++ [.node s1 a1 ks1]), ((aT [29,52] (e' := [(0, _), (1, _), (7, _), (8, _)]) Z Z ⟨Z, Z, Z, Z, trivial⟩ Z).trans (Ent.sub 52 700 Z Z Z)).trans (Ent.to ⟨Z, Z, ?_, Z, trivial⟩ ?_), ⟨(eN hr).2, by have := (eN hr).1; show k < k1; omega, ?_, ?_⟩, ?_⟩
 exact congrArg (fun z => some (eI z)) (by show (x.1 : Int) - 1 = (x.1 - 1 : Nat); omega)
 rw [kS, List.length_append]; rfl
 rw [hi.2.2.1]
 obtain ⟨q, hq⟩ : ∃ q, x.1 = q + 1 := ⟨x.1 - 1, by omega⟩
 rw [hq, cx hr]
 simp [Option.map_map, Function.comp_def]
 show (x.2.2 ++ [_]).length + (x.1 - 1) ≤ 2; simp; omega
 show x.1 - 1 < x.1; omega
 try simp only [bg] at hc33
 refine AWP.exit (ag (j4 O Z Z Z Z (js O Z (jf [6,5,4,33,32,0,1,7,8] Z (jn (AWP.ret ?_))))))
 refine ⟨.inl Z, _, ((Ent.to (e' := [(4, _), (5, _), (6, _)]) ⟨Z, Z, Z, trivial⟩ Z).trans (Ent.freeze (e' := [(4, _), (5, _), (6, _)]) 700 Z (.cons Z (.keep Z) (.cons Z (.keep Z) (.cons Z (.keep Z) .nil))) (.cons Z (.box (.cons (.keep Z) (.cons (.keep Z) (.cons (.keep Z) (.cons (.keep Z) (.cons (.keep Z) (.cons (.keep Z) (.cons (.keep Z) (.cons (.keep Z) (.cons (.keep Z) (.cons (.row Z ew.symm) .nil))))))))))) (.skip .nil)))).trans (Ent.freeze (e' := [(4, _), (5, _), (6, _)]) 29 Z (.cons Z (.c (.box (cs := [.int .i64 (body.getD k default).kind, .int .i64 (body.getD k default).var, .int .i64 (body.getD k default).event, .int .i64 (body.getD k default).sum.c, bp (body.getD k default).sum.xs, .int .i64 (body.getD k default).index.c, bp (body.getD k default).index.xs, bX (body.getD k default).facts, .int .i64 k, .slc 1 (Trs.d x.2.2)]) Z (aw Z))) (.cons Z (.keep Z) (.cons Z (.keep Z) .nil))) (.skip .nil)), _, Z, ?_, Z⟩
 have hx : x.1 = 0 := by omega
 rw [Int.toNat_natCast] at hc22
 rw [show bT (n + 1) body k = some (.node (body.getD k default) k x.2.2, x.2.1) by
  unfold bT
  rw [if_neg (by omega), if_neg (by omega), hi.2.2.1, hx]; simp [bV]]
 rfl
theorem uW {L : Nat} (h1 : 4096 ≤ L) (h2 : L ≤ 1073741824) {body : List Sm} : ∀ {n k : Nat}, k ≤ body.length → body.length < n + k → MC Tryz.prog L 101 [.c (.d (eZ body)), eI k] [] (Plain (sQ (bT n body k)))
 | 0, k, hk, hn => by omega
 | n + 1, k, hk, hn => vw h1 h2 hk hn (fun k' hk' hn' => uW h1 h2 hk' hn')
def uh (body : List Sm) : Option (Tr × Nat) := bT (body.length + 1) body 0
def rC (body : List Sm) : D := if (30 : Int) < body.length then .nilp else tP (uh body)
def qb (body : List Sm) : Bool := if (30 : Int) < body.length then false else (tB (uh body) && decide (tN (uh body) = body.length))
def dJ (p : Pm) : Bool := qb p.body && (cB p.pre 6 && cB p.post 6)

theorem uY {body : List Sm} : MQ h1 h2 81 [.c (.d (eZ body))] [] (Plain (.tup [.c (.d (rC body)), eB (qb body)])) := by
 refine jB 24 h1 h2 Tryz.func81 Z Z Z fun O hF => ?_
 have hl : body.length ≤ L := by simpa [As.fact, A.fact, M.fact, D.fact, Ds.fact] using hF.1.1
 refine ag (j2 O Z Z (jn (AWP.seq (ag (js O Z ?_)))))
 first | refine cy O Z Z Z Z Z Z Z Z Z Z Z ?_ | refine js O Z ?_ | refine aY O Z Z Z Z Z ?_
 refine js O Z (jf [9,3,2,0] Z (jn (AWP.cond O Z Z (fun hc9 => ?_) (fun hc9 => ?_))))
 try simp only [bg] at hc9
 refine ag (j2 O Z Z (jn (AWP.ret ?_)))
 refine ⟨.inl Z, _, Ent.refl, _, Z, ?_, Z⟩
 rw [rC, qb, if_pos hc9, if_pos hc9]
 try simp only [bg] at hc9
 refine AWP.skip (ag (js O Z (bk [(11, _), (3, _), (2, _), (0, _)] [] ⟨Z, Z, Z, Z, trivial⟩ Z (ao O Z Z Z Z (uW (n := body.length + 1) (k := 0) h1 h2 (Nat.zero_le _) (by omega)) (ab Z) Z Z Z Z (B0 := 13000) Z Z (j4 O Z Z Z Z (j3 O Z Z Z (jf [6,5,4,3,2,0] Z (aP (j3 O Z Z Z (bk [(18, _), (16, _), (5, _), (3, _), (2, _), (0, _)] [] ⟨Z, Z, Z, Z, Z, Z, trivial⟩ Z (au 4 Z Z Z (fun hx => ac hx Z Z Z (V O Z) Z Z ( ac hx Z Z Z (V O Z) Z Z ( ac hx Z Z Z (cU O Z Z Z Z Z Z Z Z) Z Z ( ac hx Z Z Z (V O Z) Z Z ( AN.nil))))) Z Z ?_)))))))))))
 first | refine aa (ak O Z Z Z Z Z) Z Z Z ?_ | refine aa (aj O Z Z Z Z Z) Z Z Z ?_ | refine aa (Val.pickB O Z Z Z Z Z) Z Z Z ?_
 refine j2 O Z Z (jf [3,2,0] Z (jn (AWP.ret ?_)))
 refine ⟨.inl Z, _, Ent.refl, _, Z, ?_, Z⟩
 rw [rC, qb, if_neg (by omega), if_neg (by omega), ← Bool.cond_false_right]; rfl
theorem w2 {body : List Sm} : MQ h1 h2 99 [.c (.d (eZ body))] [] (Plain (eB (qb body))) := by
 refine av ?_ Z
 refine jB 11 h1 h2 Tryz.func99 Z Z Z fun O hF => ?_
 refine ag (js O Z (aP (js O Z (bk [(6, _), (2, _)] [] ⟨Z, Z, trivial⟩ Z (ao O Z Z Z Z (uY h1 h2) (ab Z) Z Z Z Z (B0 := 8000) Z Z (j4 O Z Z Z Z (js O Z (jf [4,2] Z (aP (j2 O Z Z (jf [2] Z (jn (AWP.ret ?_)))))))))))))
 refine ⟨.inl Z, _, Ent.refl, _, Z, ?_⟩
 first | rfl | skip
theorem uZ {p : Pm} : MQ h1 h2 80 [aPm p] [] (Plain (eB (dJ p))) := by
 refine av ?_ Z
 refine jB 16 h1 h2 Tryz.func80 Z Z Z fun O hF => ?_
 refine ag (jx O Z Z Z Z Z Z Z Z (js O Z (aP (j2 O Z Z (jf [4,2,1,0] Z (ae O Z Z Z Z (w2 h1 h2) (ab Z) Z Z Z Z Z (B0 := 6000) Z (js O Z (jf [6,2,1,0] Z (au 3 Z Z Z (fun hx => ac hx Z Z Z (V O Z) Z Z ( ac hx Z Z Z (V O Z) Z Z ( bv O hx Z Z Z Z (s4 h1 h2) (ab Z) Z Z Z Z Z Z Z (B0 := 10000) Z ( AN.nil)))) Z Z ?_)))))))))
 first | refine aa (ak O Z Z Z Z Z) Z Z Z ?_ | refine aa (aj O Z Z Z Z Z) Z Z Z ?_ | refine aa (Val.pickB O Z Z Z Z Z) Z Z Z ?_
 refine js O Z (jf [11,2,1,0] Z (au 3 Z Z Z (fun hx => ac hx Z Z Z (V O Z) Z Z ( ac hx Z Z Z (V O Z) Z Z ( bv O hx Z Z Z Z (s4 h1 h2) (ab Z) Z Z Z Z Z Z Z (B0 := 15000) Z ( AN.nil)))) Z Z ?_))
 first | refine aa (ak O Z Z Z Z Z) Z Z Z ?_ | refine aa (aj O Z Z Z Z Z) Z Z Z ?_ | refine aa (Val.pickB O Z Z Z Z Z) Z Z Z ?_
 refine js O Z (jf [2,0] Z (jn (AWP.ret ?_)))
 refine ⟨.inl Z, _, Ent.refl, _, Z, ?_⟩
 rw [Bool.cond_false_right, Bool.cond_false_right, Bool.and_assoc]; rfl
structure RS where
  vars : List Int
  cells : List Int
  events : List Int
  fuel : Int
  steps : Int
  out : Int
def leaf (s : Sm) (r : RS) : Bool × RS :=
  if s.kind = 2 then (if v9 (iG s.sum r.vars) = true then (true, { r with vars := r.vars.set s.var.toNat (iG s.sum r.vars) }) else (false, { r with out := 4 }))
  else if s.kind = 3 then (if ga 0 7 (iG s.index r.vars) = true then (true, { r with vars := r.vars.set s.var.toNat (r.cells.getD (iG s.index r.vars).toNat default) }) else (false, { r with out := 2 }))
  else if s.kind = 4 then (if ga 0 7 (iG s.index r.vars) = true then (if v9 (iG s.sum r.vars) = true then (true, { r with cells := r.cells.set (iG s.index r.vars).toNat (iG s.sum r.vars) }) else (false, { r with out := 4 })) else (false, { r with out := 2 }))
  else if s.kind = 5 then (true, { r with events := r.events ++ [s.event] })
  else if s.kind = 6 then (if iG s.sum r.vars < 0 then (false, { r with out := 3 }) else (true, r))
  else (true, r)
structure RSok (r : RS) : Prop where
  vars : sq r.vars 4 = true
  cells : sq r.cells 8 = true
  lo : 0 ≤ r.steps
  hi : r.steps ≤ r.fuel
  fuel : r.fuel ≤ 2000
  events : (r.events.length : Int) ≤ r.steps
structure RSle (r r' : RS) : Prop where
  ok : RSok r'
  fuel : r'.fuel = r.fuel
  steps : r.steps ≤ r'.steps
theorem im {s : Sm} (h : bB s = true) : s.sum.term = true ∧ s.index.term = true := by
 unfold bB qh at h
 cases h1 : s.sum.term <;> cases h2 : s.index.term <;> simp [h1, h2] at h ⊢
theorem qZ {s : Sm} (h : bB s = true) (hk : rJ s = true) : 0 ≤ s.var ∧ s.var ≤ 3 := by
 unfold bB uj at h
 rw [hk] at h
 cases h1 : (decide (0 ≤ s.var) && decide (s.var ≤ 3)) with
 | true => simpa using h1
 | false => rw [h1] at h; cases qh s <;> cases uc s <;> simp at h

mutual
/-- Each element is valid, and has the statements behind it that it cQ. -/
def Tr.ok : Tr → Prop
  | .node s _ ks => bB s = true ∧ (ks.length : Int) = bh s.kind ∧ Trs.ok ks
def Trs.ok : List Tr → Prop
  | [] => True
  | t :: r => t.ok ∧ Trs.ok r
end
theorem iQ {f : Nat → Option (Tr × Nat)} (hf : ∀ k t k', f k = some (t, k') → t.ok) : ∀ {q k ts k'}, bV f q k = some (ts, k') → ts.length = q ∧ Trs.ok ts
 | 0, k, ts, k', h => by simp only [bV, Option.some.injEq, Prod.mk.injEq] at h; rw [← h.1]; exact ⟨rfl, trivial⟩
 | q + 1, k, ts, k', h => by
  cases hx : f k with
  | none => rw [cW hx] at h; cases h
  | some x =>
   obtain ⟨t, k1⟩ := x
   rw [cx hx] at h
   simp only [Option.map_eq_some_iff] at h
   obtain ⟨⟨ts1, k2⟩, h1, h2⟩ := h
   simp only [Prod.mk.injEq] at h2
   obtain ⟨h3, h4⟩ := iQ hf h1
   rw [← h2.1]
   exact ⟨by simp [h3], hf k t k1 hx, h4⟩
theorem iM : ∀ {n body k t k'}, bT n body k = some (t, k') → t.ok
 | 0, _, _, _, _, h => by cases h
 | n + 1, body, k, t, k', h => by
  unfold bT at h
  split at h
  cases h
  split at h
  cases h
  rename_i hk
  simp only [Option.map_eq_some_iff] at h
  obtain ⟨⟨ts1, k2⟩, h1, h2⟩ := h
  simp only [Prod.mk.injEq] at h2
  obtain ⟨h3, h4⟩ := iQ (fun k t k' h => iM h) h1
  rw [← h2.1]
  have hs : bB (body.getD k default) = true := by
   cases hb : bB (body.getD k default) with
   | true => rfl
   | false => unfold bI at hk; rw [hb] at hk; exact absurd (by rw [if_neg (by decide)]; decide) hk
  refine ⟨hs, ?_, h4⟩
  rw [h3]
  unfold bI
  rw [if_pos hs]
  have := (cm (body.getD k default).kind).1
  omega
theorem mV {body : List Sm} (h : qb body = true) : ∃ t, uh body = some (t, body.length) ∧ t.ok ∧ rC body = t.d := by
 unfold qb at h
 split at h
 cases h
 rename_i h30
 simp only [Bool.and_eq_true, decide_eq_true_eq] at h
 obtain ⟨t, k, hk⟩ := o9 h.1
 have h2 := h.2
 rw [hk] at h2
 simp only [Int.ofNat_inj, Int.natCast_inj] at h2
 subst h2
 exact ⟨t, hk, iM hk, by unfold rC; rw [if_neg h30, hk]⟩
def r0 (s : Sx) (f : Int) : RS := ⟨s.vars, s.cells, [], f, 0, 0⟩
structure Rs where
  v : List Int
  c : List Int
  ev : List Int
  out : Int
  st : Int
structure Cf where
  n : Nat
  ws : List Nat
  v : List Int
  c : List Int
  ev : List Int
  st : Int
theorem pT {b : List Sm} (h : gd b = true) : 1 ≤ b.length ∧ b.length ≤ 30 ∧ b.all bB = true ∧ mH b 0 = b.length := by
 unfold gd at h; simp only [Bool.and_eq_true, decide_eq_true_eq] at h
 exact ⟨by omega, by omega, h.2.1, h.2.2⟩

theorem gy {f g : Nat → Option (Tr × Nat)} {k0 : Nat} (h : ∀ j, k0 ≤ j → f j = g j) (hf : ∀ k t k', f k = some (t, k') → k < k') : ∀ {q k : Nat}, k0 ≤ k → bV f q k = bV g q k
 | 0, _, _ => rfl
 | q + 1, k, hk => by
  cases hx : f k with
  | none => rw [cW hx, cW (by rw [← h k hk]; exact hx)]
  | some x =>
   obtain ⟨t, k1⟩ := x
   have := hf k t k1 hx
   rw [cx hx, cx (by rw [← h k hk]; exact hx), gy h hf (by omega)]
theorem gO {n : Nat} {body : List Sm} {k : Nat} (h : body.length ≤ k) : bT n body k = none := by
 cases n with
 | zero => rfl
 | succ n => unfold bT; rw [if_pos h]
theorem kF : ∀ {n m : Nat} {body : List Sm} {k : Nat}, body.length < n + k → body.length < m + k → bT n body k = bT m body k
 | 0, m, body, k, h1, h2 => by rw [gO (by omega), gO (by omega)]
 | n + 1, 0, body, k, h1, h2 => by rw [gO (by omega), gO (by omega)]
 | n + 1, m + 1, body, k, h1, h2 => by
  unfold bT
  rw [gy (f := bT n body) (g := bT m body) (k0 := k + 1) (fun j hj => kF (by omega) (by omega)) (fun k t k' h => (eN h).1) (Nat.le_refl _)]
def bJ (body : List Sm) (k : Nat) : Option (Tr × Nat) := bT (body.length + 1) body k
theorem jm {body : List Sm} {k : Nat} : bJ body k = if body.length ≤ k then none else if bI (body.getD k default) < 0 then none else (bV (bJ body) (bI (body.getD k default)).toNat (k + 1)).map fun r => (.node (body.getD k default) k r.1, r.2) := by
 unfold bJ
 show (if body.length ≤ k then none else if bI (body.getD k default) < 0 then none else (bV (bT body.length body) (bI (body.getD k default)).toNat (k + 1)).map fun r => (Tr.node (body.getD k default) k r.1, r.2)) = _
 rw [gy (f := bT body.length body) (g := bT (body.length + 1) body) (k0 := k + 1) (fun j hj => kF (by omega) (by omega)) (fun k t k' h => (eN h).1) (Nat.le_refl _)]
theorem fz {body : List Sm} {k k' : Nat} {t : Tr} (h : bJ body k = some (t, k')) : k < k' ∧ k' ≤ body.length := eN h
theorem bQ {body : List Sm} {k k' : Nat} {s : Sm} {a : Int} {ks : List Tr} (h : bJ body k = some (.node s a ks, k')) :
    k < body.length ∧ s = body.getD k default ∧ bB s = true ∧ bV (bJ body) ks.length (k + 1) = some (ks, k') ∧ (ks.length : Int) = bh s.kind := by
 rw [jm] at h
 split at h
 cases h
 split at h
 cases h
 rename_i h1 h2
 simp only [Option.map_eq_some_iff] at h
 obtain ⟨⟨ts, k2⟩, h3, h4⟩ := h
 simp only [Prod.mk.injEq, Tr.node.injEq] at h4
 obtain ⟨⟨h5, _, h6⟩, h7⟩ := h4
 subst h6; subst h7; subst h5
 have h8 := (iQ (fun k t k' h => iM h) h3).1
 have hs : bB (body.getD k default) = true := by
  cases hb : bB (body.getD k default) with
  | true => rfl
  | false => unfold bI at h2; rw [hb] at h2; exact absurd (by rw [if_neg (by decide)]; decide) h2
 refine ⟨by omega, Z, hs, by rw [h8]; exact h3, ?_⟩
 rw [h8]
 unfold bI
 rw [if_pos hs]
 have := (cm (body.getD k default).kind).1
 omega
theorem jy {body : List Sm} {k : Nat} (hk : k < body.length) {n : Int} (hn : 0 < n) : dI (body.drop k) n = (dI (body.drop (k + 1)) (n - 1 + bh (body.getD k default).kind)).map (· + 1) := by
 rw [nf hn hk, show n + (bh (body.getD k default).kind - 1) = n - 1 + bh (body.getD k default).kind by omega]
theorem lL {body : List Sm} {f : Nat → Option (Tr × Nat)} (hf : ∀ k t k', f k = some (t, k') → k < k' ∧ ∀ n : Int, 0 ≤ n → dI (body.drop k) (n + 1) = (dI (body.drop k') n).map (· + (k' - k))) :
    ∀ {q k : Nat} {ts : List Tr} {k' : Nat}, bV f q k = some (ts, k') → k ≤ k' ∧ ∀ n : Int, 0 ≤ n → dI (body.drop k) (n + q) = (dI (body.drop k') n).map (· + (k' - k))
 | 0, k, ts, k', h => by
  simp only [bV, Option.some.injEq, Prod.mk.injEq] at h
  rw [← h.2]
  refine ⟨Nat.le_refl _, fun n hn => ?_⟩
  rw [show n + ((0 : Nat) : Int) = n by omega]
  simp
 | q + 1, k, ts, k', h => by
  cases hx : f k with
  | none => rw [cW hx] at h; cases h
  | some x =>
   obtain ⟨t, k1⟩ := x
   rw [cx hx] at h
   simp only [Option.map_eq_some_iff] at h
   obtain ⟨⟨ts1, k2⟩, h1, h2⟩ := h
   simp only [Prod.mk.injEq] at h2
   obtain ⟨_, rfl⟩ := h2
   obtain ⟨h3, h4⟩ := hf k t k1 hx
   obtain ⟨h5, h6⟩ := lL hf h1
   refine ⟨by omega, fun n hn => ?_⟩
   rw [show n + ((q + 1 : Nat) : Int) = (n + q) + 1 by omega, h4 _ (by omega), h6 n hn, Option.map_map]
   exact congrArg (fun g => Option.map g _) (funext fun x => by simp; omega)
theorem jv {body : List Sm} : ∀ {n k : Nat} {t : Tr} {k' : Nat}, bT n body k = some (t, k') → k < k' ∧ ∀ m : Int, 0 ≤ m → dI (body.drop k) (m + 1) = (dI (body.drop k') m).map (· + (k' - k))
 | 0, _, _, _, h => by cases h
 | n + 1, k, t, k', h => by
  unfold bT at h
  split at h
  cases h
  split at h
  cases h
  rename_i h1 h2
  simp only [Option.map_eq_some_iff] at h
  obtain ⟨⟨ts, k2⟩, h3, h4⟩ := h
  simp only [Prod.mk.injEq] at h4
  obtain ⟨_, rfl⟩ := h4
  obtain ⟨h5, h6⟩ := lL (body := body) (fun k t k' h => jv h) h3
  have hs : bB (body.getD k default) = true := by
   cases hb : bB (body.getD k default) with
   | true => rfl
   | false => unfold bI at h2; rw [hb] at h2; exact absurd (by rw [if_neg (by decide)]; decide) h2
  have hkf : bI (body.getD k default) = bh (body.getD k default).kind := by unfold bI; rw [if_pos hs]
  have hb := (cm (body.getD k default).kind).1
  refine ⟨by omega, fun m hm => ?_⟩
  have h7 := h6 m hm
  rw [hkf] at h7
  rw [jy (by omega) (by omega), show m + 1 - 1 + bh (body.getD k default).kind = m + ((bh (body.getD k default).kind).toNat : Int) by omega, h7, Option.map_map]
  exact congrArg (fun g => Option.map g _) (funext fun x => by simp; omega)
theorem pM {body : List Sm} {k k' : Nat} {t : Tr} (h : bJ body k = some (t, k')) : mH body k = k' := by
 obtain ⟨h1, h2⟩ := jv h
 have h3 := h2 0 (Int.le_refl _)
 unfold mH
 rw [show (1 : Int) = 0 + 1 from Z, h3, go (Int.le_refl _)]
 show (k : Int) + ((0 + (k' - k) : Nat) : Int) = k'
 omega
theorem mU {body : List Sm} : ∀ {n k : Nat} {t : Tr} {k' : Nat}, bT n body k = some (t, k') → ∀ j, k ≤ j → j < k' → bB (body.getD j default) = true
 | 0, _, _, _, h => by cases h
 | n + 1, k, t, k', h => by
  unfold bT at h
  split at h
  cases h
  split at h
  cases h
  rename_i h1 h2
  simp only [Option.map_eq_some_iff] at h
  obtain ⟨⟨ts, k2⟩, h3, h4⟩ := h
  simp only [Prod.mk.injEq] at h4
  obtain ⟨_, rfl⟩ := h4
  have hs : bB (body.getD k default) = true := by
   cases hb : bB (body.getD k default) with
   | true => rfl
   | false => unfold bI at h2; rw [hb] at h2; exact absurd (by rw [if_neg (by decide)]; decide) h2
  have key : ∀ {q k : Nat} {ts : List Tr} {k' : Nat}, bV (bT n body) q k = some (ts, k') → ∀ j, k ≤ j → j < k' → bB (body.getD j default) = true := by
   intro q
   induction q with
   | zero => intro k ts k' h j h1 h2; simp only [bV, Option.some.injEq, Prod.mk.injEq] at h; omega
   | succ q ih =>
    intro k ts k' h j h1 h2
    cases hx : bT n body k with
    | none => rw [cW hx] at h; cases h
    | some x =>
     obtain ⟨t, k1⟩ := x
     rw [cx hx] at h
     simp only [Option.map_eq_some_iff] at h
     obtain ⟨⟨ts1, k2⟩, h3, h4⟩ := h
     simp only [Prod.mk.injEq] at h4
     obtain ⟨_, rfl⟩ := h4
     by_cases hj : j < k1
     exact mU hx j h1 hj
     exact ih h3 j (by omega) h2
  intro j hj1 hj2
  by_cases e : j = k
  rw [e]; exact hs
  exact key h3 j (by omega) hj2
theorem lJ {f : Nat → Option (Tr × Nat)} : ∀ {a b k : Nat} {ts : List Tr} {k' : Nat}, bV f (a + b) k = some (ts, k') → ∃ ts1 k1 ts2, bV f a k = some (ts1, k1) ∧ bV f b k1 = some (ts2, k')
 | 0, b, k, ts, k', h => ⟨[], k, ts, rfl, by rwa [Nat.zero_add] at h⟩
 | a + 1, b, k, ts, k', h => by
  rw [show a + 1 + b = (a + b) + 1 by omega] at h
  cases hx : f k with
  | none => rw [cW hx] at h; cases h
  | some x =>
   obtain ⟨t, k1⟩ := x
   rw [cx hx] at h
   simp only [Option.map_eq_some_iff] at h
   obtain ⟨⟨ts1, k2⟩, h3, h4⟩ := h
   simp only [Prod.mk.injEq] at h4
   obtain ⟨_, rfl⟩ := h4
   obtain ⟨u1, k3, u2, h5, h6⟩ := lJ h3
   exact ⟨t :: u1, k3, u2, by rw [cx hx, h5]; rfl, h6⟩
theorem jL {body : List Sm} (hall : ∀ j, j < body.length → bB (body.getD j default) = true) : ∀ (d : Nat) {k q m : Nat}, body.length ≤ k + d → dI (body.drop k) q = some m → ∃ ts, bV (bJ body) q k = some (ts, k + m)
 | d, k, 0, m, hd, h => by
  rw [show ((0 : Nat) : Int) = 0 from Z, go (Int.le_refl _)] at h
  obtain rfl := Option.some.inj h
  exact ⟨[], Z⟩
 | 0, k, q + 1, m, hd, h => by
  rw [List.drop_of_length_le (by omega), kA (by omega)] at h; cases h
 | d + 1, k, q + 1, m, hd, h => by
  by_cases hk : k < body.length
  rw [jy hk (by omega)] at h
  have hb := cm (body.getD k default).kind
  rw [show ((q + 1 : Nat) : Int) - 1 + bh (body.getD k default).kind = (((bh (body.getD k default).kind).toNat + q : Nat) : Int) by omega] at h
  simp only [Option.map_eq_some_iff] at h
  obtain ⟨m', h1, rfl⟩ := h
  obtain ⟨ts, h2⟩ := jL hall d (by omega) h1
  obtain ⟨ts1, k1, ts2, h3, h4⟩ := lJ h2
  have hkf : bI (body.getD k default) = bh (body.getD k default).kind := by unfold bI; rw [if_pos (hall k hk)]
  have h5 : bJ body k = some (.node (body.getD k default) k ts1, k1) := by
   rw [jm, if_neg (by omega), if_neg (by omega), hkf, h3]; rfl
  exact ⟨.node (body.getD k default) k ts1 :: ts2, by rw [cx h5, h4, show k + (m' + 1) = k + 1 + m' by omega]; rfl⟩
  rw [List.drop_of_length_le (by omega), kA (by omega)] at h; cases h
theorem vT {body : List Sm} : body.all bB = true ↔ ∀ j, j < body.length → bB (body.getD j default) = true := by
 rw [List.all_eq_true]
 constructor
 intro h j hj; rw [aI hj]; exact h _ (List.getElem_mem hj)
 intro h x hx
 obtain ⟨j, hj, rfl⟩ := List.mem_iff_getElem.1 hx
 have := h j hj
 rwa [aI hj] at this
theorem sb (body : List Sm) : gd body = qb body := by
 by_cases h30 : (30 : Int) < body.length
 unfold qb gd
 rw [if_pos h30, decide_eq_false (show ¬ (body.length : Int) ≤ 30 by omega), Bool.and_false, Bool.false_and]
 rw [Bool.eq_iff_iff]
 constructor
 intro h
 obtain ⟨h1, h2, h3, h4⟩ := pT h
 have h5 : dI (body.drop 0) ((1 : Nat) : Int) = some body.length := by
  unfold mH at h4
  cases hx : dI (body.drop 0) ((1 : Nat) : Int) with
  | none => rw [show ((1 : Int)) = ((1 : Nat) : Int) from Z, hx] at h4; have h9 : (-1 : Int) = body.length := h4; omega
  | some n =>
   rw [show ((1 : Int)) = ((1 : Nat) : Int) from Z, hx] at h4
   have : n = body.length := by simp at h4; omega
   rw [this]
 obtain ⟨ts, h6⟩ := jL (vT.1 h3) body.length (by omega) h5
 cases hx : bJ body 0 with
 | none => rw [cW hx] at h6; cases h6
 | some x =>
  obtain ⟨t, k1⟩ := x
  rw [cx hx] at h6
  simp only [bV, Option.map_some, Option.some.injEq, Prod.mk.injEq] at h6
  unfold qb
  rw [if_neg h30, show uh body = some (t, k1) from hx]
  show (true && decide ((k1 : Int) = body.length)) = true
  rw [decide_eq_true (by omega)]; rfl
 intro h
 obtain ⟨t, h1, h2, h3⟩ := mV h
 have h4 : bJ body 0 = some (t, body.length) := h1
 have h5 := pM h4
 have h6 := (fz h4).1
 unfold gd
 rw [decide_eq_true (show (1 : Int) ≤ body.length by omega), decide_eq_true (show (body.length : Int) ≤ 30 by omega), vT.2 (fun j hj => mU h4 j (Nat.zero_le _) hj), decide_eq_true h5]
 rfl
structure Nd where
  kind : Int
  fact : Int
  term : Tm
  mul : List Int
  deriving Inhabited, DecidableEq
structure Sq where
  facts : List Tm
  goal : Tm
  deriving Inhabited, DecidableEq
abbrev Sq.cells (s : Sq) : List D := [bX s.facts, .int .i64 s.goal.c, bp s.goal.xs]
abbrev wb (s : Sq) : A := .agg (s.cells.map .d)
theorem c36 {s t : Sq} : MQ h1 h2 44 [wb s, wb t] [] (Plain (eB (decide (s = t)))) := by
 refine av ?_ Z
 refine jB 17 h1 h2 Tryz.func44 Z Z Z fun O hF => ?_
 refine ag (jx O Z Z Z Z Z Z Z Z (jx O Z Z Z Z Z Z Z Z (js O Z (jn (AWP.seq (ag (j4 O Z Z Z Z (ae O Z Z Z Z (ue h1 h2) (ab Z) Z Z Z Z Z (B0 := 10000) Z (js O Z (jn (AWP.cond O Z Z (fun hc10 => ?_) (fun hc10 => ?_))))))))))))
 try simp only [bg] at hc10
 refine ag (js O Z (jn (AWP.ret ?_)))
 refine ⟨.inl Z, _, Ent.refl, _, Z, ?_⟩
 rw [decide_eq_false (fun e => hc10 (by rw [e]))]
 try simp only [bg] at hc10
 refine AWP.skip (AWP.seq (ag (j4 O Z Z Z Z (ae O Z Z Z Z (vO h1 h2) (ab Z) Z Z Z Z Z (B0 := 16000) Z (js O Z (jn (AWP.cond O Z Z (fun hc16 => ?_) (fun hc16 => ?_))))))))
 try simp only [bg] at hc16
 refine ag (js O Z (jn (AWP.ret ?_)))
 refine ⟨.inl Z, _, Ent.refl, _, Z, ?_⟩
 rw [decide_eq_false (fun e => hc16 (by rw [e]))]
 try simp only [bg] at hc16
 refine AWP.skip (ag (js O Z (jn (AWP.ret ?_))))
 refine ⟨.inl Z, _, Ent.refl, _, Z, ?_⟩
 have e : s = t := by cases s; cases t; simp_all
 rw [decide_eq_true e]
theorem oO {L : Nat} (h1 : 4096 ≤ L) (h2 : L ≤ 1073741824) {xs : List Int} : MC Tryz.prog L 74 [cD xs] [] (Plain (cD xs)) := (sY h1 h2).frozen (.v (.c (.whole rfl (List.length_map _).symm)))
theorem vv {L : Nat} (h1 : 4096 ≤ L) (h2 : L ≤ 1073741824) {xs : List Int} : MC Tryz.prog L 127 [cD xs] [] (Plain (cD xs)) := (sX h1 h2).frozen (.v (.c (.whole rfl (List.length_map _).symm)))
abbrev aE (ts : List Tm) : B := .row false 2 (ts.map Tm.cells)

theorem s3 {t : Tm} : MQ h1 h2 96 [ptr t.cells] [] (Plain (cZ t)) := by
 refine MC.data (jB 13 h1 h2 Tryz.func96 Z Z Z fun O hF => ?_)
 refine ag (jl O Z Z Z Z Z Z (jn (AWP.seq (f6 O [_,_,_,_,_,_,_,_,_,_,_] [pn [] 0 1, pn [0] 0 1, pn [0,1] 0 1, pn [0,1,2] 0 1, pn [] 0 0, pn [4] 0 0, pn [4,5] 0 0, pn [4,5,6] 0 0, pe [4,5,6,7] 0, pn [0,1,2,3,4,5,6,7,8] 1 1, pe [0,1,2,3,4,5,6,7,8,9] 1] [8,10] [_,_,_] (ai (kc O Z (V O Z)) (ai (kc O Z (V O Z)) (ai (kc O Z (V O Z)) (ai (kc O Z (V O Z)) (kc O Z (kc O Z (kc O Z (kc O Z (ai (bj O (B0 := 12000) Z Z Z Z (oO (xs := t.xs) h1 h2) (ab Z) Z Z Z Z Z) (kc O Z (ai (aC O Z Z Z Z Z Z Z Z Z Z Z Z Z) trivial))))))))))) ?_))))
 refine AWP.ret ?_
 refine ⟨.inl Z, _, Ent.refl, _, Z, ?_⟩
 exact .v (.agg (aw Z))
theorem w5 {t : Tm} : MQ h1 h2 129 [cZ t] [] (Plain (cZ t)) := by
 refine MC.data (jB 9 h1 h2 Tryz.func129 Z Z Z fun O hF => ?_)
 refine ag (jx O Z Z Z Z Z Z Z Z (jl O Z Z Z Z Z Z (jn (AWP.seq (f6 O [_,_,_,_,_,_,_] [pn [] 0 1, pn [0] 0 1, pn [] 0 0, pn [2] 0 0, pe [2,3] 0, pn [0,1,2,3,4] 1 1, pe [0,1,2,3,4,5] 1] [4,6] [_,_,_] (ai (kc O Z (V O Z)) (ai (kc O Z (V O Z)) (kc O Z (kc O Z (ai (bj O (B0 := 8000) Z Z Z Z (vv (xs := t.xs) h1 h2) (ab Z) Z Z Z Z Z) (kc O Z (ai (aC O Z Z Z Z Z Z Z Z Z Z Z Z Z) trivial))))))) ?_)))))
 refine AWP.ret ?_
 refine ⟨.inl Z, _, Ent.refl, _, Z, ?_⟩
 exact .v (.agg (aw Z))
theorem qn {ts : List Tm} : MQ h1 h2 70 [cr ts] [] (Rows (.c (.rs 0 0 ts.length)) [aE ts]) := by
 refine bF (jB 20 h1 h2 Tryz.func70 Z Z Z fun O hF => ?_)
 have hl : ts.length ≤ L := by simpa [As.fact, A.fact, M.fact, D.fact, Ds.fact] using hF.1.1
 refine ag (js O Z (aP (AOps.heap (bE O Z Z Z) Z (js O Z (jn (AWP.seq (ag (js O Z (jn (AWP.block (az (X := Nat) (fun i => ⟨[(0, cr ts), (3, .c (.rs 900 0 i)), (4, eI i)], [(900, aE (ts.take i))]⟩) (fun i => i ≤ ts.length) (fun i => ts.length - i) 0 ((cp 5 Z).trans ((af 5 900 Z Z).trans (Ent.to ⟨Z, Z, Z, trivial⟩ Z))) ?_ (fun i hi => ?_))))))))))))
 exact Nat.zero_le _
 refine AWP.seq (ag (j2 O Z Z ?_))
 first | refine cy O Z Z Z Z Z Z Z Z Z Z Z ?_ | refine js O Z ?_ | refine aY O Z Z Z Z Z ?_
 refine js O Z (jf [9,0,3,4] Z (jn (AWP.cond O Z Z (fun hc9 => ?_) (fun hc9 => ?_))))
 try simp only [bg] at hc9
 refine AWP.skip (AWP.seq (AWP.block (AWP.region (j3 O Z Z Z ?_))))
 first | refine dR O Z Z Z Z Z Z Z Z Z Z Z ?_ | refine aY O Z Z Z Z Z ?_
 refine jf [15,12,9,0,3,4] Z (ao O Z Z Z Z (s3 h1 h2) (ab Z) Z Z Z Z (B0 := 17000) Z Z (jf [16,12,9,0,3,4] Z (AOps.heap (dO O Z Z Z Z Z Z Z Z Z Z Z) Z (jf [17,12,9,0,3,4] Z (AOps.heap (bD (own := false) (zs := (ts.take (i + 1)).map Tm.cells) (n := i + 1) O Z Z Z Z Z Z Z Z Z Z Z Z Z Z Z Z (.row Z (by simp; omega)) (.whole Z Z (.inr ⟨Z, Z⟩)) (by simp) Z (by simp; omega) (by simp; omega) (by rw [List.take_succ_eq_append_getElem (by omega), List.map_append, Int.toNat_natCast, aI (by omega)]; rfl) (by simp; omega)) Z (js O Z (jf [3,9,0,4] Z (jn (AWP.region (js O Z ?_))))))))))
 first | refine ji O Z ?_ | refine aY O Z Z Z Z Z ?_
 refine js O Z (jf [4,3,9,0] Z (jn ?_))
 refine ⟨i + 1, (aT [18] (e' := [(0, _), (3, _), (4, _)]) Z Z ⟨Z, Z, Z, trivial⟩ Z).trans (af 18 900 Z Z), by omega, by omega⟩
 try simp only [bg] at hc9
 refine AWP.exit (ag (j2 O Z Z (jn (AWP.ret ?_))))
 obtain rfl : i = ts.length := by omega
 rw [List.take_length]
 refine ⟨.inl Z, _, Ent.refl, _, Z, [900], by decide, Z, Z, Z⟩
theorem se {L : Nat} (h1 : 4096 ≤ L) (h2 : L ≤ 1073741824) {ts : List Tm} : MC Tryz.prog L 70 [cr ts] [] (Plain (cr ts)) := (qn h1 h2).frozen (.v (.c (.whole rfl (List.length_map _).symm)))
def dG (xs : List Int) : List Int := (xs.reverse.dropWhile (· == 0)).reverse
theorem pr {xs : List Int} : dG (xs ++ [0]) = dG xs := by simp [dG]
theorem pu {xs : List Int} {x : Int} (h : x ≠ 0) : dG (xs ++ [x]) = xs ++ [x] := by simp [dG, h]
theorem lz {xs : List Int} {n : Nat} (h : n < xs.length) (h0 : xs.getD n default = 0) : dG (xs.take (n + 1)) = dG (xs.take n) := by
 rw [List.take_succ_eq_append_getElem h, ← aI h, h0, pr]
theorem lA {xs : List Int} {n : Nat} (hn : n ≤ xs.length) (h : n = 0 ∨ xs.getD (n - 1) default ≠ 0) : dG (xs.take n) = xs.take n := by
 cases n with
 | zero => simp [dG]
 | succ n =>
  have h' : xs.getD n default ≠ 0 := by
   rcases h with h | h
   cases h
   exact h
  rw [aI (by omega)] at h'
  rw [List.take_succ_eq_append_getElem (by omega), pu h']
def qj (c : Int) (xs : List Int) : Tm × Bool := if (Tm.mk c (dG xs)).ok = true then (⟨c, dG xs⟩, true) else (⟨0, []⟩, false)
abbrev lj (r : Tm × Bool) : A := .tup [cZ r.1, eB r.2]
def iD (a : Tm) (m : Int) (b : Tm) (n : Int) : List Int := (List.range 10).map fun i => m * a.xs.getD i 0 + n * b.xs.getD i 0
def pp (a : Tm) (m : Int) (b : Tm) (n : Int) : Tm × Bool := qj (m * a.c + n * b.c) (iD a m b n)
def bo (t : Tm) : Tm × Bool := pp t (-1) ⟨1, []⟩ (-1)
structure Small (t : Tm) : Prop where
  c : num t.c = true
  xs : t.xs.all num = true
theorem el {a b : Int} (h1 : num a = true) (h2 : num b = true) : -1000000000000 ≤ a * b ∧ a * b ≤ 1000000000000 := by
 have h1 := vQ.1 h1
 have h2 := vQ.1 h2
 have h3 : a.natAbs ≤ 1000000 := by omega
 have h4 : b.natAbs ≤ 1000000 := by omega
 have h5 := Nat.mul_le_mul h3 h4
 rw [← Int.natAbs_mul] at h5
 omega
theorem Small.get {t : Tm} (h : Small t) (i : Nat) : num (t.xs.getD i 0) = true := by
 by_cases hi : i < t.xs.length
 have : t.xs.getD i 0 = t.xs[i] := by simp [hi]
 rw [this]
 exact List.all_eq_true.1 h.xs _ (List.getElem_mem hi)
 have : t.xs.getD i 0 = 0 := by simp [Nat.not_lt.1 hi]
 rw [this]; decide
theorem Small.of {t : Tm} (h : t.ok = true) : Small t := by
 simp only [Tm.ok, Bool.and_eq_true, Bool.not_eq_true'] at h
 refine ⟨?_, h.2⟩
 cases hn : num t.c with
 | true => rfl
 | false => rw [hn] at h; simp at h
theorem pw {a b : Tm} {m n : Int} {i : Nat} (h : i < 10) : (iD a m b n).take (i + 1) = (iD a m b n).take i ++ [m * a.xs.getD i 0 + n * b.xs.getD i 0] := by
 rw [List.take_succ_eq_append_getElem (by simpa [iD] using h)]
 simp [iD]
theorem dw {a b : Tm} {m n : Int} : (iD a m b n).length = 10 := by simp [iD]
theorem kn {t : Tm} (h : t.ok = true) : t.xs.length ≤ 10 := by
 simp only [Tm.ok, Bool.and_eq_true, Bool.not_eq_true'] at h
 by_cases h1 : (10 : Int) < t.xs.length
 rw [decide_eq_true h1] at h
 cases num t.c <;> simp at h
 omega
theorem uP {c : Int} {xs : List Int} : MQ h1 h2 120 [eI c, cD xs] [] (Plain (lj (qj c xs))) := by
 refine MC.data (jB 32 h1 h2 Tryz.func120 Z Z Z fun O hF => ?_)
 have hl : xs.length ≤ L := by simpa [As.fact, A.fact, M.fact, D.fact, Ds.fact] using hF.2.1.1
 refine ag (jl O Z Z Z Z Z Z (js O Z (aP (js O Z ?_))))
 first | refine cy O Z Z Z Z Z Z Z Z Z Z Z ?_ | refine js O Z ?_ | refine aY O Z Z Z Z Z ?_
 refine js O Z (jf [6,5,4,0,1] Z (jn (AWP.seq (AWP.block (az (X := Nat) (fun n => ⟨[(0, eI c), (1, cD xs), (4, .c (.pt 4 0 0)), (6, eI n)], [(4, .box [.d (.int .i64 0), .d .nils])]⟩) (fun n => n ≤ xs.length ∧ dG (xs.take n) = dG xs) (fun n => n) xs.length (Ent.env ⟨Z, Z, Z, Z, trivial⟩) ?_ (fun n hi => ?_))))))
 exact ⟨Nat.le_refl _, by rw [List.take_length]⟩
 refine AWP.seq (ag (j3 O Z Z Z (jf [12,0,1,4,6] Z (au 6 Z Z Z (fun hx => ac hx Z Z Z (V O Z) Z Z ( ac hx Z Z Z (V O Z) Z Z ( ac hx Z Z Z (bc O Z Z (by first | omega | (simp at *; omega)) (by first | omega | (simp at *; omega))) Z Z ( ac hx Z Z Z (aV O Z Z Z Z Z Z Z Z (by first | omega | (simp at *; omega)) (cJ (by first | omega | (simp at *; omega)) (by first | omega | (simp at *; omega)))) Z Z ( ac hx Z Z Z (V O Z) Z Z ( ac hx Z Z Z (V O Z) Z Z ( AN.nil))))))) Z Z ?_))))
 first | refine aa (ak O Z Z Z Z Z) Z Z Z ?_ | refine aa (aj O Z Z Z Z Z) Z Z Z ?_ | refine aa (Val.pickB O Z Z Z Z Z) Z Z Z ?_
 refine jf [19,0,1,4,6] Z (jn (AWP.cond O Z Z (fun hc19 => ?_) (fun hc19 => ?_)))
 refine AWP.skip (AWP.block (AWP.region (js O Z ?_)))
 first | refine ji O Z ?_ | refine aY O Z Z Z Z Z ?_
 refine js O Z (jf [6,19,0,1,4] Z (jn ?_))
 rw [Bool.cond_false_right, Bool.and_eq_true, decide_eq_true_eq, decide_eq_true_eq] at hc19
 obtain ⟨k, hk⟩ : ∃ k, n = k + 1 := ⟨n - 1, by omega⟩
 subst hk
 have hk2 : ((k + 1 : Nat) : Int) - 1 = k := by omega
 rw [hk2] at hc19
 refine ⟨k, Ent.to ⟨Z, Z, Z, by rw [hk2]; rfl, trivial⟩ Z, ⟨by omega, ?_⟩, Nat.lt_succ_self k⟩
 rw [← hi.2, lz (by omega) (by simpa using hc19.2)]
 refine AWP.exit (ag (j3 O Z Z Z ?_))
 have hd : dG (xs.take n) = xs.take n := lA hi.1 (by
  rw [Bool.cond_false_right] at hc19
  rcases Nat.eq_zero_or_pos n with h0 | h0
  ·
   exact .inl h0
  ·
   refine .inr (fun h9 => ?_)
   have e1 : ((n : Int) - 1).toNat = n - 1 := by omega
   rw [e1, h9] at hc19; simp at hc19; omega)
 have ht := hi.2
 rw [hd] at ht
 refine aa ((cL O Z Z ⟨by omega, by simp; omega⟩).cast (v' := cD (dG xs)) (by rw [← ht]; simp [List.map_take])) Z Z Z (jf [25,22,19,0,1,4,6] Z (ao O Z Z Z Z (oO (xs := dG xs) h1 h2) (ab Z) Z Z Z Z (B0 := 27000) Z Z (js O Z (jf [27,19,0,1,4,6] Z (jl O Z Z Z Z Z Z (jo O Z Z Z Z Z Z Z Z Z Z Z Z (jn (AWP.seq (ag (ae O Z Z Z Z (rP (t := ⟨c, dG xs⟩) h1 h2) (.cons (.c (.pb (cs := Tm.cells ⟨c, dG xs⟩) Z (aw Z))) .nil) Z Z Z Z Z (B0 := 29000) Z (js O Z (jn (AWP.cond O Z Z (fun hc29 => ?_) (fun hc29 => ?_))))))))))))))
 refine ag (js O Z (jo O Z Z Z Z Z Z Z Z Z Z Z Z (js O Z (jn (AWP.ret ?_)))))
 refine ⟨.inl Z, _, Ent.refl, _, Z, ?_⟩
 have hok : (Tm.mk c (dG xs)).ok = false := by simpa using hc29
 rw [show qj c xs = (⟨0, []⟩, false) from if_neg (by rw [hok]; decide)]
 exact .tup (.cons (.agg (.cons .d (.cons .nils .nil))) (.cons (.c .d) .nil))
 refine AWP.skip (ag (js O Z (jo O Z Z Z Z Z Z Z Z Z Z Z Z (js O Z (jn (AWP.ret ?_))))))
 refine ⟨.inl Z, _, Ent.refl, _, Z, ?_⟩
 have hok : (Tm.mk c (dG xs)).ok = true := by simpa using hc29
 rw [show qj c xs = (⟨c, dG xs⟩, true) from if_pos hok]
 exact .tup (.cons (.agg (aw Z)) (.cons (.c .d) .nil))
theorem uM {t : Tm} {i : Nat} (hi : i < 10) : MQ h1 h2 121 [ptr t.cells, eI i] [] (Plain (eI (t.xs.getD i 0))) := by
 refine av ?_ Z
 refine jB 19 h1 h2 Tryz.func121 Z Z Z fun O hF => ?_
 have hl : t.xs.length ≤ L := by simpa [As.fact, A.fact, M.fact, D.fact, Ds.fact] using hF.1.2.1.1
 refine ag (js O Z (jn (AWP.seq (ag (j4 O Z Z Z Z (js O Z ?_))))))
 first | refine cy O Z Z Z Z Z Z Z Z Z Z Z ?_ | refine js O Z ?_ | refine aY O Z Z Z Z Z ?_
 refine js O Z (jf [11,4,0,1] Z (jn (AWP.cond O Z Z (fun hc11 => ?_) (fun hc11 => ?_))))
 try simp only [bg] at hc11
 refine ag (j4 O Z Z Z Z (js O Z ?_))
 first | refine dR O Z Z Z Z Z Z Z Z Z Z Z ?_ | refine aY O Z Z Z Z Z ?_
 refine j2 O Z Z (jf [4,0,1] Z (jn (AWP.ret ?_)))
 refine ⟨.inl Z, _, Ent.refl, _, Z, ?_⟩
 rw [Int.toNat_natCast]
 have : t.xs.getD i 0 = t.xs.getD i default := rfl
 rfl
 try simp only [bg] at hc11
 refine AWP.skip (ag (js O Z (jn (AWP.ret ?_))))
 refine ⟨.inl Z, _, Ent.refl, _, Z, ?_⟩
 have : t.xs.getD i 0 = 0 := by simp [show t.xs.length ≤ i by omega]
 rw [this]
theorem uQ {a b : Tm} {m n : Int} (ha : Small a) (hb : Small b) (hm : num m = true) (hn : num n = true) : MQ h1 h2 98 [ptr a.cells, eI m, ptr b.cells, eI n] [] (Plain (lj (pp a m b n))) := by
 refine MC.data (jB 48 h1 h2 Tryz.func98 Z Z Z fun O hF => ?_)
 refine ag (jl O Z Z Z Z Z Z (js O Z (aP (AOps.heap (bE O Z Z Z) Z (js O Z (jn (AWP.seq (ag (js O Z (jn (AWP.block (az (X := Nat) (fun i => ⟨[(0, ptr a.cells), (1, eI m), (2, ptr b.cells), (3, eI n), (8, .c (.pt 8 0 0)), (10, .c (.rs 900 0 i)), (11, eI i)], [(8, .box [.d (.int .i64 0), .d .nils]), (900, ba ((iD a m b n).take i))]⟩) (fun i => i ≤ 10) (fun i => 10 - i) 0 ((af 12 900 Z Z).trans (Ent.to ⟨Z, Z, Z, Z, Z, Z, Z, trivial⟩ Z)) ?_ (fun i hi => ?_)))))))))))))
 exact Nat.zero_le _
 refine AWP.seq (ag (j2 O Z Z (jn (AWP.cond O Z Z (fun hc14 => ?_) (fun hc14 => ?_)))))
 try simp only [bg] at hc14
 refine AWP.skip (AWP.seq (AWP.block (AWP.region ?_)))
 have q1 := el hm (ha.get i)
 have q2 := el hn (hb.get i)
 refine j4 O Z Z Z Z (ae O Z Z Z Z (uM (t := a) (i := i) h1 h2 (by omega)) (ab Z) Z Z Z Z Z (B0 := 22000) Z ?_)
 first | refine ji O Z ?_ | refine aY O Z Z Z Z Z ?_
 refine j3 O Z Z Z (jf [25,24,23,22,17,14,13,0,1,2,3,8,10,11] Z (ae O Z Z Z Z (uM (t := b) (i := i) h1 h2 (by omega)) (ab Z) Z Z Z Z Z (B0 := 27000) Z ?_))
 first | refine ji O Z ?_ | refine aY O Z Z Z Z Z ?_
 first | refine ji O Z ?_ | refine aY O Z Z Z Z Z ?_
 refine jf [28,17,14,13,0,1,2,3,8,10,11] Z (AOps.heap (bE O Z Z Z) Z (jf [29,17,14,13,0,1,2,3,8,10,11] Z (AOps.heap (cX (zs := ((iD a m b n).take (i + 1)).map fun n => [.int .i64 n]) (n := i + 1) O Z Z Z Z Z Z Z Z Z Z Z Z Z Z Z Z (.row Z (by simp [dw]; omega)) Z Z (by decide) Z (by simp [dw]; omega) (by simp [dw]; omega) (by rw [pw (by omega), List.map_append]; rfl) (by simp [dw]; omega)) Z (js O Z (jf [10,14,13,0,1,2,3,8,11] Z (jn (AWP.region (js O Z ?_))))))))
 first | refine ji O Z ?_ | refine aY O Z Z Z Z Z ?_
 refine js O Z (jf [11,10,14,13,0,1,2,3,8] Z (jn ?_))
 refine ⟨i + 1, ((aT [8,30] (e' := [(0, _), (1, _), (2, _), (3, _), (8, _), (10, _), (11, _)]) Z Z ⟨Z, Z, Z, Z, Z, Z, Z, trivial⟩ Z).trans (af 30 900 Z Z)), by omega, by omega⟩
 try simp only [bg] at hc14
 refine AWP.exit (AWP.seq ?_)
 obtain rfl : i = 10 := by omega
 rw [List.take_of_length_le (by rw [dw]; decide)]
 have q1 := el hm ha.c
 have q2 := el hn hb.c
 refine mv (Ent.freeze 900 (e' := [(10, _), (8, _), (0, _), (1, _), (2, _), (3, _)]) Z (.cons Z (.c (.row Z (by simp [dw]))) (.cons Z (.keep Z) (.cons Z (.keep Z) (.cons Z (.keep Z) (.cons Z (.keep Z) (.cons Z (.keep Z) .nil)))))) (.cons Z (.box (.cons (.keep Z) (.cons (.keep Z) .nil))) (.skip .nil))) ?_
 refine f6 O [_,_,_,_,_,_,_,_,_,_,_,_,_,_,_,_,_,_,_] [pn [] 0 0, pn [] 0 0, pn [1] 0 0, pn [1,2] 0 0, pn [1,2,3] 0 0, pn [0,1,2,3,4] 0 0, pn [] 0 0, pn [] 0 0, pn [7] 0 0, pn [7,8] 0 0, pn [7,8,9] 0 0, pn [6,7,8,9,10] 0 0, pn [0,1,2,3,4,5,6,7,8,9,10,11] 0 0, pn [] 0 0, pe [0,1,2,3,4,5,6,7,8,9,10,11,12,13] 0, pn [0,1,2,3,4,5,6,7,8,9,10,11,12,13,14] 1 1, pn [0,1,2,3,4,5,6,7,8,9,10,11,12,13,14] 1 1, pe [0,1,2,3,4,5,6,7,8,9,10,11,12,13,14,15,16] 1, pn [0,1,2,3,4,5,6,7,8,9,10,11,12,13,14,15,16,17] 2 2] [14,17] [_,_,_] (kc O Z (kc O Z (kc O Z (kc O Z (kc O Z (ai (bc O Z Z (by first | omega | (simp at *; omega)) (by first | omega | (simp at *; omega))) (kc O Z (kc O Z (kc O Z (kc O Z (kc O Z (ai (bc O Z Z (by first | omega | (simp at *; omega)) (by first | omega | (simp at *; omega))) (ai (bc O Z Z (by first | omega | (simp at *; omega)) (by first | omega | (simp at *; omega))) (kc O Z (ai (bj O (B0 := 46000) Z Z Z Z (uP (c := m * a.c + n * b.c) (xs := iD a m b n) h1 h2) (ab Z) Z Z Z Z Z) (kc O Z (kc O Z (ai (aC O Z Z Z Z Z Z Z Z Z Z Z Z Z) (kc O Z trivial))))))))))))))))))) ?_
 refine jw [9,10,8,0,1,2,3] Z (bZ ?_)
 refine AWP.ret ?_
 refine ⟨.inl Z, _, Ent.refl, _, Z, ?_⟩
 exact .tup (.cons (.agg (aw Z)) (.cons (.c .d) .nil))
theorem uT {t : Tm} (ht : Small t) : MQ h1 h2 78 [ptr t.cells] [] (Plain (lj (bo t))) := by
 refine MC.data (jB 10 h1 h2 Tryz.func78 Z Z Z fun O hF => ?_)
 refine ag (jl O Z Z Z Z Z Z (js O Z (aP (j2 O Z Z (jf [5,4,3,2] Z (jx O Z Z Z Z Z Z Z Z (jf [6,4,3,2] Z (aA (Ent.freeze 6 (e' := [(6, _), (4, _), (2, _)]) Z (.cons Z (.c (.box (cs := Tm.cells ⟨1, []⟩) Z (.cons .d (.cons .nils .nil)))) (.cons Z (.keep Z) (.cons Z (.keep Z) .nil))) (.cons Z (.box (.cons (.keep Z) (.cons (.keep Z) .nil))) (.skip .nil))) ?_))))))))
 refine ao O Z Z Z Z (uQ (a := t) (m := -1) (b := ⟨1, []⟩) (n := -1) h1 h2 ht ⟨by decide, by decide⟩ (by decide) (by decide)) (ab Z) Z Z Z Z (B0 := 8000) Z Z (j2 O Z Z (jf [9,8,2] Z (jo O Z Z Z Z Z Z Z Z Z Z Z Z (js O Z (jf [3,2] Z (jn (AWP.ret ?_)))))))
 refine ⟨.inl Z, _, Ent.refl, _, Z, ?_⟩
 exact .tup (.cons (.agg (aw Z)) (.cons (.c .d) .nil))
def ea (ts : List Tm) (n : Int) : Bool := ts.all Tm.ok && decide ((ts.length : Int) ≤ n)
def k9 (s : Sq) : Bool := ea s.facts 13 && s.goal.ok
def dl (k : Int) : Int := if k = 1 then -1 else if k = 2 then 1 else 0
def uJ : List Nd → Int → Option Nat
  | [], need => if need ≤ 0 then some 0 else none
  | s :: r, need => if need ≤ 0 then some 0 else (uJ r (need + dl s.kind)).map (· + 1)
def wN (p : List Nd) (k : Nat) : Int := match uJ (p.drop k) 1 with
  | some n => k + n
  | none => -1
def uk (p : List Nd) (k : Nat) : Nat → Int × Bool
  | 0 => (-1, false)
  | i + 1 => if (p.getD i default).kind = 1 ∨ wN p i ≤ k then uk p k i else (i, decide (i + 1 = k))
theorem w6 {ts : List Tm} {n : Int} : MQ h1 h2 90 [cr ts, eI n] [] (Plain (eB (ea ts n))) := by
 refine av ?_ Z
 refine jB 21 h1 h2 Tryz.func90 Z Z Z fun O hF => ?_
 have hl : ts.length ≤ L := by simpa [As.fact, A.fact, M.fact, D.fact, Ds.fact] using hF.1.1
 refine ag (js O Z (jn (AWP.seq (ag (js O Z (jn (AWP.block (az (X := Nat) (fun i => ⟨[(0, cr ts), (1, eI n), (5, eI i)], []⟩) (fun i => i ≤ ts.length ∧ ∀ j (h : j < ts.length), j < i → Tm.ok ts[j] = true) (fun i => ts.length - i) 0 (Ent.env ⟨Z, Z, Z, trivial⟩) ?_ (fun i hi => ?_)))))))))
 exact ⟨Nat.zero_le _, fun j h hj => absurd hj (Nat.not_lt_zero j)⟩
 refine AWP.seq (ag (j2 O Z Z ?_))
 first | refine cy O Z Z Z Z Z Z Z Z Z Z Z ?_ | refine js O Z ?_ | refine aY O Z Z Z Z Z ?_
 refine js O Z (jn (AWP.cond O Z Z (fun hc9 => ?_) (fun hc9 => ?_)))
 try simp only [bg] at hc9
 refine AWP.skip (AWP.seq (AWP.block (ag (j2 O Z Z ?_))))
 first | refine dR O Z Z Z Z Z Z Z Z Z Z Z ?_ | refine aY O Z Z Z Z Z ?_
 refine ae O Z Z Z Z (rP h1 h2) (ab Z) Z Z Z Z Z (B0 := 16000) Z (js O Z (jn (AWP.cond O Z Z (fun hc16 => ?_) (fun hc16 => ?_))))
 try simp only [bg] at hc16
 refine ag (js O Z (jn (AWP.ret ?_)))
 refine ⟨.inl Z, _, Ent.refl, _, Z, ?_⟩
 rw [Int.toNat_natCast, aI (by omega)] at hc16
 rw [ea, fh i (by omega) hc16, Bool.false_and]
 try simp only [bg] at hc16
 refine AWP.skip (AWP.region (js O Z ?_))
 first | refine ji O Z ?_ | refine aY O Z Z Z Z Z ?_
 refine js O Z (jn ?_)
 refine ⟨i + 1, Ent.env ⟨Z, Z, Z, trivial⟩, ⟨by omega, fun j h hj => ?_⟩, by omega⟩
 by_cases e : j = i
 subst e; rw [Int.toNat_natCast, aI h] at hc16; exact hc16
 exact hi.2 j h (by omega)
 try simp only [bg] at hc9
 refine AWP.exit (ag (js O Z ?_))
 first | refine cy O Z Z Z Z Z Z Z Z Z Z Z ?_ | refine js O Z ?_ | refine aY O Z Z Z Z Z ?_
 refine j3 O Z Z Z (jn (AWP.ret ?_))
 refine ⟨.inl Z, _, Ent.refl, _, Z, ?_⟩
 rw [ea, fP (fun j hj => hi.2 j hj (by omega)), Bool.true_and]
theorem c82 {s : Sq} : MQ h1 h2 63 [ptr s.cells] [] (Plain (eB (k9 s))) := by
 refine av ?_ Z
 refine jB 14 h1 h2 Tryz.func63 Z Z Z fun O hF => ?_
 refine ag (js O Z (aP (j4 O Z Z Z Z (bk [(6, _), (2, _), (0, _)] [] ⟨Z, Z, Z, trivial⟩ Z (ae O Z Z Z Z (w6 h1 h2) (ab Z) Z Z Z Z Z (B0 := 8000) Z (js O Z (bk [(8, _), (2, _), (0, _)] [] ⟨Z, Z, Z, trivial⟩ Z (au 4 Z Z Z (fun hx => ac hx Z Z Z (V O Z) Z Z ( ac hx Z Z Z (V O Z) Z Z ( ac hx Z Z Z (V O Z) Z Z ( bv O hx Z Z Z Z (rP (t := s.goal) h1 h2) (.cons (.c (.sub Z)) .nil) Z Z Z Z Z Z Z (B0 := 13000) Z ( AN.nil))))) Z Z ?_))))))))
 first | refine aa (ak O Z Z Z Z Z) Z Z Z ?_ | refine aa (aj O Z Z Z Z Z) Z Z Z ?_ | refine aa (Val.pickB O Z Z Z Z Z) Z Z Z ?_
 refine js O Z (jf [2] Z (jn (AWP.ret ?_)))
 refine ⟨.inl Z, _, Ent.refl, _, Z, ?_⟩
 rw [Bool.cond_false_right]; rfl
def qm (xs : List Int) : Nat := xs.foldl (fun g x => Nat.gcd g x.natAbs) 0
def mx (a b : Int) : Int := if a > b then a else b
def qB (t : Tm) : Tm × Bool := if qm t.xs < 2 then (⟨0, []⟩, false) else
  qj (if t.c.tmod (qm t.xs) < 0 then t.c.tdiv (qm t.xs) - 1 else t.c.tdiv (qm t.xs)) (t.xs.map fun x => x.tdiv (qm t.xs))
def ub (n : Nd) (ctx : List Tm) (first : Bool) : List Tm := if n.kind = 3 then ctx ++ [(qB (ctx.getD n.fact.toNat default)).1] else if first = true then ctx ++ [n.term] else ctx ++ [(bo n.term).1]
def cv (f : Tm → Int) : List Tm → List Int → Int
  | t :: ts, m :: ms => m * f t + cv f ts ms
  | _, _ => 0
theorem fF {f : Tm → Int} : ∀ {ts : List Tm} {ms : List Int} {i : Nat}, i < ts.length → i < ms.length → cv f (ts.take (i + 1)) (ms.take (i + 1)) = cv f (ts.take i) (ms.take i) + ms.getD i default * f (ts.getD i default)
 | [], _, i, h, _ => by simp at h
 | _ :: _, [], i, _, h => by simp at h
 | x :: xs, y :: ys, 0, _, _ => by simp [cv]
 | x :: xs, y :: ys, i + 1, h1, h2 => by
  have := fF (f := f) (ts := xs) (ms := ys) (i := i) (by simpa using h1) (by simpa using h2)
  simp only [List.take_succ_cons, cv, List.getD_cons_succ] at this ⊢
  omega
theorem iK {f : Tm → Int} {ts : List Tm} {ms : List Int} (hf : ∀ t ∈ ts, num (f t) = true) (hm : ms.all num = true) : ∀ {i : Nat}, i ≤ ts.length → i ≤ ms.length → -(i * 1000000000000 : Int) ≤ cv f (ts.take i) (ms.take i) ∧ cv f (ts.take i) (ms.take i) ≤ i * 1000000000000
 | 0, _, _ => by simp [cv]
 | i + 1, h1, h2 => by
  have ih := iK hf hm (i := i) (by omega) (by omega)
  rw [fF (by omega) (by omega)]
  have a1 := hf _ (List.getElem_mem (show i < ts.length by omega))
  have a2 := List.all_eq_true.1 hm _ (List.getElem_mem (show i < ms.length by omega))
  have := el a2 a1
  rw [aI (by omega), aI (by omega)]
  omega
abbrev nD (k : Nat) : Tm → Int := fun t => t.xs.getD k 0
def cn (ts : List Tm) (ms : List Int) : List Int := (List.range 10).map fun k => cv (nD k) ts ms
def r6 (ctx : List Tm) (ms : List Int) : Bool := decide (ctx.length = ms.length) && ((cn ctx ms).all (fun x => decide (x = 0)) && decide (cv Tm.c ctx ms < 0))
def qF (n : Nd) (ctx : List Tm) : Bool := if n.kind = 1 then r6 ctx n.mul else if 20 ≤ ctx.length then false else if n.kind = 2 then (bo n.term).2 else if n.fact ≥ ctx.length then false else (qB (ctx.getD n.fact.toNat default)).2

def dX (ts : List Tm) (ms : List Int) (i j : Nat) : List Int := (List.range 10).map fun k => cv (nD k) (ts.take i) (ms.take i) + (if k < j then ms.getD i default * (ts.getD i default).xs.getD k 0 else 0)
theorem dx {ts ms i j} : (dX ts ms i j).length = 10 := by simp [dX]
theorem lE {ts ms i} : dX ts ms i 0 = cn (ts.take i) (ms.take i) := by simp [dX, cn]
theorem kv {ts ms i j} (h : j < 10) : (dX ts ms i j).getD j default = cv (nD j) (ts.take i) (ms.take i) := by
 rw [aI (by rw [dx]; exact h)]
 simp [dX]
theorem lF {ts ms i j} (h : j < 10) : (dX ts ms i j).set j ((dX ts ms i j).getD j default + ms.getD i default * (ts.getD i default).xs.getD j default) = dX ts ms i (j + 1) := by
 rw [kv h]
 apply List.ext_getElem?
 intro k
 rw [List.getElem?_set]
 by_cases hk : k < 10
 by_cases e : j = k
 subst e
 rw [if_pos Z, if_pos (by rw [dx]; exact h)]
 simp [dX, h]
 rw [if_neg e]
 have h3 : (k < j + 1) = (k < j) := by apply propext; omega
 simp only [dX, List.getElem?_map, List.getElem?_range hk, Option.map_some, h3]
 have h1 : (dX ts ms i j)[k]? = none := List.getElem?_eq_none (by rw [dx]; omega)
 have h2 : (dX ts ms i (j + 1))[k]? = none := List.getElem?_eq_none (by rw [dx]; omega)
 rw [if_neg (by omega), h1, h2]
theorem m4 {ts ms i j} (h1 : i < ts.length) (h2 : i < ms.length) (h : (ts.getD i default).xs.length ≤ j) : dX ts ms i j = cn (ts.take (i + 1)) (ms.take (i + 1)) := by
 unfold dX cn
 apply List.map_congr_left
 intro k hk
 rw [fF h1 h2]
 by_cases e : k < j
 rw [if_pos e]
 rw [if_neg e]
 show _ + 0 = _ + _ * (ts.getD i default).xs.getD k 0
 rw [show (ts.getD i default).xs.getD k 0 = 0 by rw [List.getD_eq_getElem?_getD, List.getElem?_eq_none (by omega)]; rfl, Int.mul_zero]
theorem i5 {ts ms} : (cn ts ms).length = 10 := by simp [cn]
structure CtxOk (ctx : List Tm) : Prop where
  ok : ∀ t ∈ ctx, t.ok = true
  len : ctx.length ≤ 1000
theorem CtxOk.get {ctx : List Tm} (h : CtxOk ctx) {i : Nat} (hi : i < ctx.length) : (ctx.getD i default).ok = true := by rw [aI hi]; exact h.ok _ (List.getElem_mem hi)
end Go.Al
