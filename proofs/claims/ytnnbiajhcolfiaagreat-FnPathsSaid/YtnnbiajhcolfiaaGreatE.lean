/- Programs and their validity; the reference's functions for bW. -/
import Derived.Test.YtnnbiajhcolfiaaGreatD
set_option linter.unusedVariables false
set_option linter.unusedSimpArgs false
set_option maxRecDepth 10000
open Go.Proofs
namespace Go.Al
variable {L : Nat} (h1 : 4096 ≤ L) (h2 : L ≤ 1073741824)
def Tm.term (t : Tm) : Bool := t.ok && decide ((t.xs.length : Int) ≤ 4)
def bW (ts : List Tm) (n : Int) : Bool := ts.all Tm.term && decide ((ts.length : Int) ≤ n)
def aN (k : Int) : Int := if k = 1 then 2 else if k = 7 then 2 else if k = 8 then 1 else 0
def dc : List Sm → Int → Option Nat
  | [], need => if need ≤ 0 then some 0 else none
  | s :: r, need => if need ≤ 0 then some 0 else (dc r (need + (aN s.kind - 1))).map (· + 1)
def kW (body : List Sm) (k : Nat) : Int := match dc (body.drop k) 1 with
  | some n => k + n
  | none => -1
def Tm.zero (t : Tm) : Bool := decide (t.c = 0) && decide ((t.xs.length : Int) = 0)

variable {t : Tm}
theorem vX : MQ h1 h2 77 [ptr t.cells] [] (Plain (eB t.term)) := by
 refine aY ?_ Z
 refine jB 13 h1 h2 Tryz.func77 Z Z Z fun O hF => ?_
 refine ag (js O Z (bn (js O Z (aB O Z Z Z Z (yh h1 h2) (af Z) Z Z Z Z Z (B0 := 5000) Z (js O Z (aw 6 Z Z Z (fun hx => ab hx Z Z Z (V O Z) Z Z ( ab hx Z Z Z (V O Z) Z Z ( ab hx Z Z Z (V O Z) Z Z ( ab hx Z Z Z (V O Z) Z Z ( ab hx Z Z Z (b9 O Z Z Z Z Z Z Z Z) Z Z ( ab hx Z Z Z (V O Z) Z Z ( AN.nil))))))) Z Z (aa (ar O Z Z Z Z Z) Z Z Z (js O Z (jr ?_)))))))))
 refine ⟨.inl Z, _, av, _, Z, ?_⟩
 rw [Bool.cond_false_right]; rfl
variable {ts : List Tm} {n : Int}
theorem wa : MQ h1 h2 49 [cW ts, eI n] [] (Plain (eB (bW ts n))) := by
 refine aY ?_ Z
 refine jB 21 h1 h2 Tryz.func49 Z Z Z fun O hF => ?_
 have hl : ts.length ≤ L := by simpa [As.fact, A.fact, M.fact, D.fact, Ds.fact] using hF.1.1
 refine ag (js O Z (jn (ah (ag (js O Z (jn (aq (aH (X := Nat) (fun i => ⟨[(0, cW ts), (1, eI n), (5, eI i)], []⟩) (fun i => i ≤ ts.length ∧ ∀ j (h : j < ts.length), j < i → Tm.term ts[j] = true) (fun i => ts.length - i) 0 (Ent.env ⟨Z, Z, Z, trivial⟩) ?_ (fun i hi => ?_)))))))))
 exact ⟨dF _, fun j h hj => absurd hj (Nat.not_lt_zero j)⟩
 refine ah (ag (j2 O Z Z (eK O Z (js O Z (jn (ae O Z Z (fun hc9 => ?_) (fun hc9 => ?_)))))))
 try simp only [cf] at hc9
 refine ak (ah (aq (ag (j2 O Z Z (pq O Z Z (aB O Z Z Z Z (vX h1 h2) (af Z) Z Z Z Z Z (B0 := 16000) Z (js O Z (jn (ae O Z Z (fun hc16 => ?_) (fun hc16 => ?_))))))))))
 try simp only [cf] at hc16
 refine ag (js O Z (jr ?_))
 refine ⟨.inl Z, _, av, _, Z, ?_⟩
 rw [Int.toNat_natCast, aM (by omega)] at hc16
 rw [bW, iu i (by omega) hc16, Bool.false_and]
 try simp only [cf] at hc16
 refine ak (an (js O Z (ji O Z (js O Z (jn ?_)))))
 refine ⟨i + 1, Ent.env ⟨Z, Z, Z, trivial⟩, ⟨by omega, fun j h hj => ?_⟩, by omega⟩
 by_cases e : j = i
 subst e; rw [Int.toNat_natCast, aM h] at hc16; exact hc16
 exact hi.2 j h (by omega)
 try simp only [cf] at hc9
 refine bH (ag (js O Z (eK O Z (j3 O Z Z Z (jr ?_)))))
 refine ⟨.inl Z, _, av, _, Z, ?_⟩
 rw [bW, kb (fun j hj => hi.2 j hj (by omega)), Bool.true_and]
theorem b0 (k : Int) : 0 ≤ aN k ∧ aN k ≤ 2 := by unfold aN; split; decide; split; decide; split <;> decide
theorem f8 {l : List Sm} {n : Int} (h : n ≤ 0) : dc l n = some 0 := by cases l <;> simp [dc, h]
theorem lM {n : Int} (h : 0 < n) : dc [] n = none := by simp [dc]; omega
theorem oN {l : List Sm} {n : Int} (h : 0 < n) {k : Nat} (hk : k < l.length) : dc (l.drop k) n = (dc (l.drop (k + 1)) (n + (aN (l.getD k default).kind - 1))).map (· + 1) := by
 rw [List.drop_eq_getElem_cons hk, aM hk]
 show (if n ≤ 0 then some 0 else _) = _
 rw [if_neg (by omega)]
theorem yg {k : Int} : MQ h1 h2 42 [eI k] [] (Plain (eI (aN k))) := by
 refine aY ?_ Z
 refine jB 9 h1 h2 Tryz.func42 Z Z Z fun O hF => ?_
 refine ag (js O Z (jn (ah (ag (js O Z (jn (aq (ah (ag (j2 O Z Z (jn (ae O Z Z (fun hc4 => ?_) (fun hc4 => ?_)))))))))))))
 try simp only [cf] at hc4
 refine ak (ae O Z Z (fun hc4 => ?_) (fun hc4 => ?_))
 try simp only [cf] at hc4
 refine ag (js O Z (jr ?_))
 refine ⟨.inl Z, _, av, _, Z, ?_⟩
 simp_all [aN]
 try simp only [cf] at hc4
 refine ag (j2 O Z Z (jn (ae O Z Z (fun hc7 => ?_) (fun hc7 => ?_))))
 try simp only [cf] at hc7
 refine ag (js O Z (jr ?_))
 refine ⟨.inl Z, _, av, _, Z, ?_⟩
 simp_all [aN]
 try simp only [cf] at hc7
 refine ak (ag (js O Z (jr ?_)))
 refine ⟨.inl Z, _, av, _, Z, ?_⟩
 simp_all [aN]
 try simp only [cf] at hc4
 refine an (j2 O Z Z (jn (ae O Z Z (fun hc4 => ?_) (fun hc4 => ?_))))
 try simp only [cf] at hc4
 refine ag (js O Z (jr ?_))
 refine ⟨.inl Z, _, av, _, Z, ?_⟩
 simp_all [aN]
 try simp only [cf] at hc4
 refine ag (j2 O Z Z (jn (ae O Z Z (fun hc7 => ?_) (fun hc7 => ?_))))
 try simp only [cf] at hc7
 refine ag (js O Z (jr ?_))
 refine ⟨.inl Z, _, av, _, Z, ?_⟩
 simp_all [aN]
 try simp only [cf] at hc7
 refine ak (ag (js O Z (jr ?_)))
 refine ⟨.inl Z, _, av, _, Z, ?_⟩
 simp_all [aN]
theorem yc : MQ h1 h2 123 [ptr t.cells] [] (Plain (eB t.zero)) := by
 refine aY ?_ Z
 refine jB 16 h1 h2 Tryz.func123 Z Z Z fun O hF => ?_
 refine ag (js O Z (bn (j4 O Z Z Z Z (j2 O Z Z (aw 6 Z Z Z (fun hx => ab hx Z Z Z (V O Z) Z Z ( ab hx Z Z Z (V O Z) Z Z ( ab hx Z Z Z (V O Z) Z Z ( ab hx Z Z Z (V O Z) Z Z ( ab hx Z Z Z (b9 O Z Z Z Z Z Z Z Z) Z Z ( ab hx Z Z Z (V O Z) Z Z ( AN.nil))))))) Z Z (aa (ar O Z Z Z Z Z) Z Z Z (js O Z (jr ?_))))))))
 refine ⟨.inl Z, _, av, _, Z, ?_⟩
 rw [Bool.cond_false_right]; rfl
variable {body : List Sm}
theorem AJ {k : Nat} (hk : k ≤ body.length) : MQ h1 h2 79 [.c (.d (ie body)), eI k] [] (Plain (eI (kW body k))) := by
 refine aY ?_ Z
 refine jB 24 h1 h2 Tryz.func79 Z Z Z fun O hF => ?_
 have hl : body.length ≤ L := by simpa [As.fact, A.fact, M.fact, D.fact, Ds.fact] using hF.1.1
 refine ag (js O Z (bn (js O Z (jn (ah (aq (aH (X := Int × Nat) (fun x => ⟨[(0, .c (.d (ie body))), (1, eI (k + x.2)), (5, eI x.1)], []⟩) (fun x => k + x.2 ≤ body.length ∧ (dc (body.drop k) 1 = (dc (body.drop (k + x.2)) x.1).map (· + x.2)) ∧ 0 ≤ x.1 ∧ x.1 ≤ x.2 + 1) (fun x => body.length - (k + x.2)) (1, 0) (Ent.env ⟨Z, by simp [cQ, ax], Z, trivial⟩) ?_ (fun x hi => ?_))))))))
 exact ⟨hk, by simp, by decide, by decide⟩
 refine ah (ag (j2 O Z Z (jn (ae O Z Z (fun hc7 => ?_) (fun hc7 => ?_)))))
 try simp only [cf] at hc7
 refine ak (aq (ah (ag (j2 O Z Z (eK O Z (js O Z (jn (ae O Z Z (fun hc11 => ?_) (fun hc11 => ?_)))))))))
 try simp only [cf] at hc11
 refine ag (js O Z (jr ?_))
 refine ⟨.inl Z, _, av, _, Z, ?_⟩
 have e : k + x.2 = body.length := by omega
 rw [kW, hi.2.1, List.drop_of_length_le (by omega), lM hc7]; rfl
 try simp only [cf] at hc11
 refine ak (ag (j3 O Z Z Z (pq O Z Z (j2 O Z Z (aB O Z Z Z Z (yg h1 h2) (af Z) Z Z Z Z Z (B0 := 19000) Z ?_)))))
 have hb := b0 (body.getD ((k : Int) + x.2).toNat default).kind
 refine aa (bc O Z Z (by omega) (by omega)) Z Z Z (ji O Z (js O Z (jn (an (js O Z (ji O Z (js O Z (jn ?_))))))))
 have hk2 : k + x.2 < body.length := by omega
 have e := oN hc7 hk2
 rw [e, Option.map_map] at hi
 refine ⟨(x.1 + (aN (body.getD (k + x.2) default).kind - 1), x.2 + 1), Ent.env ⟨Z, ?_, Z, trivial⟩, ⟨by show k + (x.2 + 1) ≤ _; omega, ?_, ?_, ?_⟩, by show body.length - (k + (x.2 + 1)) < _; omega⟩
 exact congrArg (fun z => some (eI z)) (by show (k : Int) + x.2 + 1 = k + (x.2 + 1 : Nat); omega)
 rw [hi.2.1]; exact congrArg (fun f => Option.map f _) (funext fun n => by show n + 1 + x.2 = n + (x.2 + 1); omega)
 show 0 ≤ x.1 + (aN (body.getD (k + x.2) default).kind - 1); have := (b0 (body.getD (k + x.2) default).kind).1; omega
 show x.1 + (aN (body.getD (k + x.2) default).kind - 1) ≤ (x.2 + 1 : Nat) + 1; have := (b0 (body.getD (k + x.2) default).kind).2; omega
 try simp only [cf] at hc7
 refine bH (ag (j2 O Z Z (jr ?_)))
 refine ⟨.inl Z, _, av, _, Z, ?_⟩
 rw [kW, hi.2.1, f8 hc7]; exact congrArg eI (by show (k : Int) + x.2 = k + (0 + x.2 : Nat); omega)
def nZ (s : Sm) : Bool := bif bif bif bif decide (s.kind = 2) then true else decide (s.kind = 4) then true else decide (s.kind = 6) then true else decide (s.kind = 7) then true else decide (s.kind = 8)
def n0 (s : Sm) : Bool := bif decide (s.kind = 3) then true else decide (s.kind = 4)
def lr (s : Sm) : Bool := bif decide (s.kind = 2) then true else decide (s.kind = 3)
def m6 (s : Sm) : Bool := bif bif bif !(decide (0 ≤ s.kind) && decide (s.kind ≤ 8)) then true else !s.sum.term then true else !s.index.term then true else !bW s.facts 6
def rc (s : Sm) : Bool := bif bif bif !nZ s then !s.sum.zero else false then true else bif !n0 s then !s.index.zero else false then true else bif !decide (s.kind = 8) then decide ((0 : Int) < s.facts.length) else false
def r3 (s : Sm) : Bool := bif bif lr s then !(decide (0 ≤ s.var) && decide (s.var ≤ 3)) else false then true else bif !lr s then !decide (s.var = 0) else false
def aW (s : Sm) : Bool := bif m6 s then false else bif rc s then false else bif r3 s then false else bif decide (s.kind = 5) then (decide (0 ≤ s.event) && decide (s.event ≤ 3)) else decide (s.event = 0)
def gx (b : List Sm) : Bool := (decide ((1 : Int) ≤ b.length) && decide ((b.length : Int) ≤ 30)) && (b.all aW && decide (kW b 0 = b.length))
def iO (p : Pm) : Bool := bW p.pre 6 && (gx p.body && bW p.post 6)
def jk (x : Int) : Bool := decide (-1000000000 ≤ x) && decide (x ≤ 1000000000)
def ck (xs : List Int) (n : Int) : Bool := xs.all jk && decide ((xs.length : Int) = n)
def sa (s : Sx) : Bool := ck s.vars 4 && ck s.cells 8
def dS : List Int → List Int → Int
  | x :: xs, y :: ys => x * y + dS xs ys
  | _, _ => 0
def aT (t : Tm) (vars : List Int) : Int := t.c + dS t.xs vars
theorem gS : ∀ {xs ys : List Int} {i : Nat}, i < xs.length → i < ys.length → dS (xs.take (i + 1)) (ys.take (i + 1)) = dS (xs.take i) (ys.take i) + xs.getD i default * ys.getD i default
 | [], _, i, h, _ => by simp at h
 | _ :: _, [], i, _, h => by simp at h
 | x :: xs, y :: ys, 0, _, _ => by simp [dS]
 | x :: xs, y :: ys, i + 1, h1, h2 => by
  have := gS (xs := xs) (ys := ys) (i := i) (by simpa using h1) (by simpa using h2)
  simp only [List.take_succ_cons, dS, List.getD_cons_succ] at this ⊢
  omega
theorem lj : ∀ {xs ys : List Int} {i : Nat}, xs.length ≤ i → dS (xs.take i) (ys.take i) = dS xs ys
 | [], _, i, h => by simp [dS]
 | _ :: _, _, 0, h => by simp at h
 | _ :: _, [], i + 1, h => by simp [dS]
 | x :: xs, y :: ys, i + 1, h => by
  simp only [List.take_succ_cons, dS]
  rw [lj (by simpa using h)]
theorem nd {a b : Int} (h1 : -1000000 ≤ a ∧ a ≤ 1000000) (h2 : -1000000000 ≤ b ∧ b ≤ 1000000000) : -1000000000000000 ≤ a * b ∧ a * b ≤ 1000000000000000 := by
 have h3 : a.natAbs ≤ 1000000 := by omega
 have h4 : b.natAbs ≤ 1000000000 := by omega
 have h5 := Nat.mul_le_mul h3 h4
 rw [← Int.natAbs_mul] at h5
 omega
theorem zy {x : Int} : num x = true ↔ -1000000 ≤ x ∧ x ≤ 1000000 := by simp [num]
theorem zD {x : Int} : jk x = true ↔ -1000000000 ≤ x ∧ x ≤ 1000000000 := by simp [jk]
theorem ng {xs ys : List Int} (hx : xs.all num = true) (hy : ys.all jk = true) : ∀ {i : Nat}, i ≤ xs.length → i ≤ ys.length → -(i * 1000000000000000 : Int) ≤ dS (xs.take i) (ys.take i) ∧ dS (xs.take i) (ys.take i) ≤ i * 1000000000000000
 | 0, _, _ => by simp [dS]
 | i + 1, h1, h2 => by
  have ih := ng hx hy (i := i) (by omega) (by omega)
  rw [gS (by omega) (by omega)]
  have a1 := zy.1 (List.all_eq_true.1 hx _ (List.getElem_mem (show i < xs.length by omega)))
  have a2 := zD.1 (List.all_eq_true.1 hy _ (List.getElem_mem (show i < ys.length by omega)))
  have := nd a1 a2
  rw [aM (by omega), aM (by omega)]
  omega
theorem lC {t : Tm} (h : t.term = true) : num t.c = true ∧ t.xs.all num = true ∧ t.xs.length ≤ 4 := by
 simp only [Tm.term, Tm.ok, bM, decide_eq_true_eq, Bool.not_eq_true'] at h
 obtain ⟨⟨h1, h2⟩, h3⟩ := h
 refine ⟨?_, h2, by omega⟩
 cases hn : num t.c with
 | true => rfl
 | false => rw [hn] at h1; simp at h1
theorem dV {xs : List Int} {n : Int} (h : ck xs n = true) : xs.all jk = true ∧ (xs.length : Int) = n := by simpa [ck] using h

theorem AB {s : Sm} : MQ h1 h2 78 [ptr s.cells] [] (Plain (eB (aW s))) := by
 refine aY ?_ Z
 refine jB 161 h1 h2 Tryz.func78 Z Z Z fun O hF => ?_
 refine ag (js O Z (bn (j4 O Z Z Z Z (j2 O Z Z (bq [(11, _), (2, _), (0, _)] [] ⟨Z, Z, Z, trivial⟩ Z (aw 5 Z Z Z (fun hx => ab hx Z Z Z (V O Z) Z Z ( ab hx Z Z Z (V O Z) Z Z ( ab hx Z Z Z (V O Z) Z Z ( ab hx Z Z Z (V O Z) Z Z ( ab hx Z Z Z (V O Z) Z Z ( AN.nil)))))) Z Z (aa (bi O Z Z Z Z Z) Z Z Z (js O Z (bq [(18, _), (2, _), (0, _)] [] ⟨Z, Z, Z, trivial⟩ Z (aw 5 Z Z Z (fun hx => ab hx Z Z Z (V O Z) Z Z ( ab hx Z Z Z (V O Z) Z Z ( ab hx Z Z Z (V O Z) Z Z ( ab hx Z Z Z (V O Z) Z Z ( ab hx Z Z Z (V O Z) Z Z ( AN.nil)))))) Z Z (aa (bi O Z Z Z Z Z) Z Z Z (js O Z (bq [(25, _), (2, _), (0, _)] [] ⟨Z, Z, Z, trivial⟩ Z (aw 5 Z Z Z (fun hx => ab hx Z Z Z (V O Z) Z Z ( ab hx Z Z Z (V O Z) Z Z ( ab hx Z Z Z (V O Z) Z Z ( ab hx Z Z Z (V O Z) Z Z ( ab hx Z Z Z (V O Z) Z Z ( AN.nil)))))) Z Z (aa (bi O Z Z Z Z Z) Z Z Z (js O Z (bq [(32, _), (2, _), (0, _)] [] ⟨Z, Z, Z, trivial⟩ Z (aw 5 Z Z Z (fun hx => ab hx Z Z Z (V O Z) Z Z ( ab hx Z Z Z (V O Z) Z Z ( ab hx Z Z Z (V O Z) Z Z ( ab hx Z Z Z (V O Z) Z Z ( ab hx Z Z Z (V O Z) Z Z ( AN.nil)))))) Z Z (aa (bi O Z Z Z Z Z) Z Z Z (js O Z (jf [3,2,0] Z (bn (j4 O Z Z Z Z (j2 O Z Z (bq [(44, _), (3, _), (2, _), (0, _)] [] ⟨Z, Z, Z, Z, trivial⟩ Z (aw 5 Z Z Z (fun hx => ab hx Z Z Z (V O Z) Z Z ( ab hx Z Z Z (V O Z) Z Z ( ab hx Z Z Z (V O Z) Z Z ( ab hx Z Z Z (V O Z) Z Z ( ab hx Z Z Z (V O Z) Z Z ( AN.nil)))))) Z Z (aa (bi O Z Z Z Z Z) Z Z Z (js O Z (jf [4,3,2,0] Z ?_)))))))))))))))))))))))))))))
 refine bn (j4 O Z Z Z Z (j2 O Z Z (bq [(56, _), (4, _), (3, _), (2, _), (0, _)] [] ⟨Z, Z, Z, Z, Z, trivial⟩ Z (aw 5 Z Z Z (fun hx => ab hx Z Z Z (V O Z) Z Z ( ab hx Z Z Z (V O Z) Z Z ( ab hx Z Z Z (V O Z) Z Z ( ab hx Z Z Z (V O Z) Z Z ( ab hx Z Z Z (V O Z) Z Z ( AN.nil)))))) Z Z (aa (bi O Z Z Z Z Z) Z Z Z (js O Z (jf [5,4,3,2,0] Z (jn (ah (ag (j4 O Z Z Z Z (bq [(66, _), (5, _), (4, _), (3, _), (2, _), (0, _)] [] ⟨Z, Z, Z, Z, Z, Z, trivial⟩ Z (aB O Z Z Z Z (xN h1 h2) (af Z) Z Z Z Z Z (B0 := 68000) Z (j2 O Z Z (bq [(69, _), (5, _), (4, _), (3, _), (2, _), (0, _)] [] ⟨Z, Z, Z, Z, Z, Z, trivial⟩ Z (aw 5 Z Z Z (fun hx => ab hx Z Z Z (V O Z) Z Z ( ab hx Z Z Z (V O Z) Z Z ( ab hx Z Z Z (V O Z) Z Z ( bG O hx Z Z Z Z (vX (t := s.sum) h1 h2) (.cons (.c (.sub Z)) .nil) Z Z Z Z Z Z Z (B0 := 74000) Z ( ab hx Z Z Z (V O Z) Z Z ( AN.nil)))))) Z Z (aa (bi O Z Z Z Z Z) Z Z Z (js O Z (bq [(76, _), (5, _), (4, _), (3, _), (2, _), (0, _)] [] ⟨Z, Z, Z, Z, Z, Z, trivial⟩ Z (aw 5 Z Z Z (fun hx => ab hx Z Z Z (V O Z) Z Z ( ab hx Z Z Z (V O Z) Z Z ( ab hx Z Z Z (V O Z) Z Z ( bG O hx Z Z Z Z (vX (t := s.index) h1 h2) (.cons (.c (.sub Z)) .nil) Z Z Z Z Z Z Z (B0 := 81000) Z ( ab hx Z Z Z (V O Z) Z Z ( AN.nil)))))) Z Z (aa (bi O Z Z Z Z Z) Z Z Z (js O Z (bq [(83, _), (5, _), (4, _), (3, _), (2, _), (0, _)] [] ⟨Z, Z, Z, Z, Z, Z, trivial⟩ Z (aw 6 Z Z Z (fun hx => ab hx Z Z Z (V O Z) Z Z ( ab hx Z Z Z (V O Z) Z Z ( ab hx Z Z Z (V O Z) Z Z ( ab hx Z Z Z (V O Z) Z Z ( bG O hx Z Z Z Z (wa h1 h2) (af Z) Z Z Z Z Z Z Z (B0 := 89000) Z ( ab hx Z Z Z (V O Z) Z Z ( AN.nil))))))) Z Z (aa (bi O Z Z Z Z Z) Z Z Z (jf [90,5,4,3,2,0] Z (jn (ae O Z Z (fun hc90 => ?_) (fun hc90 => ?_)))))))))))))))))))))))))))))
 refine ag (js O Z (jr ?_))
 refine ⟨.inl Z, _, av, _, Z, ?_⟩
 rw [aW, show m6 s = true from hc90]; rfl
 refine ak (ah (ag (j3 O Z Z Z (bq [(93, _), (5, _), (4, _), (2, _), (0, _)] [] ⟨Z, Z, Z, Z, Z, trivial⟩ Z (aw 5 Z Z Z (fun hx => ab hx Z Z Z (V O Z) Z Z ( ab hx Z Z Z (V O Z) Z Z ( ab hx Z Z Z (V O Z) Z Z ( bG O hx Z Z Z Z (yc (t := s.sum) h1 h2) (.cons (.c (.sub Z)) .nil) Z Z Z Z Z Z Z (B0 := 98000) Z ( ab hx Z Z Z (V O Z) Z Z ( AN.nil)))))) Z Z (aa (ar O Z Z Z Z Z) Z Z Z (js O Z (bq [(100, _), (5, _), (4, _), (2, _), (0, _)] [] ⟨Z, Z, Z, Z, Z, trivial⟩ Z (aw 9 Z Z Z (fun hx => ab hx Z Z Z (V O Z) Z Z ( ab hx Z Z Z (V O Z) Z Z ( ab hx Z Z Z (V O Z) Z Z ( lA 5 Z Z Z Z (fun hx' => ab hx' Z Z Z (V O Z) Z Z ( ab hx' Z Z Z (V O Z) Z Z ( ab hx' Z Z Z (V O Z) Z Z ( bG O hx' Z Z Z Z (yc (t := s.index) h1 h2) (.cons (.c (.sub Z)) .nil) Z Z Z Z Z Z Z (B0 := 108000) Z ( ab hx' Z Z Z (V O Z) Z Z ( AN.nil)))))) Z Z ( ab hx Z Z Z (ar O Z Z Z Z Z) Z Z ( AN.nil)))))) Z Z (aa (bi O Z Z Z Z Z) Z Z Z (js O Z (bq [(111, _), (5, _), (2, _), (0, _)] [] ⟨Z, Z, Z, Z, trivial⟩ Z (aw 13 Z Z Z (fun hx => ab hx Z Z Z (V O Z) Z Z ( ab hx Z Z Z (V O Z) Z Z ( ab hx Z Z Z (V O Z) Z Z ( ab hx Z Z Z (V O Z) Z Z ( ab hx Z Z Z (V O Z) Z Z ( ab hx Z Z Z (V O Z) Z Z ( lA 6 Z Z Z Z (fun hx' => ab hx' Z Z Z (V O Z) Z Z ( ab hx' Z Z Z (V O Z) Z Z ( ab hx' Z Z Z (V O Z) Z Z ( ab hx' Z Z Z (V O Z) Z Z ( ab hx' Z Z Z (b9 O Z Z Z Z Z Z Z Z) Z Z ( ab hx' Z Z Z (V O Z) Z Z ( AN.nil))))))) Z Z ( ab hx Z Z Z (ar O Z Z Z Z Z) Z Z ( AN.nil))))))))) Z Z (aa (bi O Z Z Z Z Z) Z Z Z (jf [125,5,2,0] Z (jn (ae O Z Z (fun hc125 => ?_) (fun hc125 => ?_))))))))))))))))))
 refine ag (js O Z (jr ?_))
 refine ⟨.inl Z, _, av, _, Z, ?_⟩
 rw [aW, show m6 s = false from hc90, show rc s = true from hc125]; rfl
 refine ak (ah (ag (j2 O Z Z (bq [(127, _), (5, _), (2, _), (0, _)] [] ⟨Z, Z, Z, Z, trivial⟩ Z (aw 6 Z Z Z (fun hx => ab hx Z Z Z (V O Z) Z Z ( ab hx Z Z Z (V O Z) Z Z ( ab hx Z Z Z (V O Z) Z Z ( ab hx Z Z Z (V O Z) Z Z ( bG O hx Z Z Z Z (xN h1 h2) (af Z) Z Z Z Z Z Z Z (B0 := 133000) Z ( ab hx Z Z Z (V O Z) Z Z ( AN.nil))))))) Z Z (aa (ar O Z Z Z Z Z) Z Z Z (js O Z (bq [(135, _), (5, _), (2, _), (0, _)] [] ⟨Z, Z, Z, Z, trivial⟩ Z (aw 9 Z Z Z (fun hx => ab hx Z Z Z (V O Z) Z Z ( ab hx Z Z Z (V O Z) Z Z ( ab hx Z Z Z (V O Z) Z Z ( lA 5 Z Z Z Z (fun hx' => ab hx' Z Z Z (V O Z) Z Z ( ab hx' Z Z Z (V O Z) Z Z ( ab hx' Z Z Z (V O Z) Z Z ( ab hx' Z Z Z (V O Z) Z Z ( ab hx' Z Z Z (V O Z) Z Z ( AN.nil)))))) Z Z ( ab hx Z Z Z (ar O Z Z Z Z Z) Z Z ( AN.nil)))))) Z Z (aa (bi O Z Z Z Z Z) Z Z Z (jf [145,2,0] Z (jn (ae O Z Z (fun hc145 => ?_) (fun hc145 => ?_))))))))))))))
 refine ag (js O Z (jr ?_))
 refine ⟨.inl Z, _, av, _, Z, ?_⟩
 rw [aW, show m6 s = false from hc90, show rc s = false from hc125, show r3 s = true from hc145]; rfl
 refine ak (ah (ag (j4 O Z Z Z Z (js O Z (jf [150,2,0] Z (jn (ae O Z Z (fun hc150 => ?_) (fun hc150 => ?_))))))))
 refine ag (j4 O Z Z Z Z (bq [(154, _), (2, _), (0, _)] [] ⟨Z, Z, Z, trivial⟩ Z (aB O Z Z Z Z (xN h1 h2) (af Z) Z Z Z Z Z (B0 := 156000) Z (js O Z (jf [2,0] Z (jr ?_))))))
 refine ⟨.inl Z, _, av, _, Z, ?_⟩
 rw [aW, show m6 s = false from hc90, show rc s = false from hc125, show r3 s = false from hc145, hc150]; rfl
 refine ak (ag (j4 O Z Z Z Z (j2 O Z Z (jf [2,0] Z (jr ?_)))))
 refine ⟨.inl Z, _, av, _, Z, ?_⟩
 rw [aW, show m6 s = false from hc90, show rc s = false from hc125, show r3 s = false from hc145, hc150]; rfl
theorem AK {b : List Sm} : MQ h1 h2 50 [.c (.d (ie b))] [] (Plain (eB (gx b))) := by
 refine aY ?_ Z
 refine jB 24 h1 h2 Tryz.func50 Z Z Z fun O hF => ?_
 have hl : b.length ≤ L := by simpa [As.fact, A.fact, M.fact, D.fact, Ds.fact] using hF.1.1
 refine ag (js O Z (jn (ah (ag (js O Z (eK O Z (aB O Z Z Z Z (xN h1 h2) (af Z) Z Z Z Z Z (B0 := 7000) Z (js O Z (jn (ae O Z Z (fun hc7 => ?_) (fun hc7 => ?_)))))))))))
 try simp only [cf] at hc7
 refine ag (js O Z (jr ?_))
 refine ⟨.inl Z, _, av, _, Z, ?_⟩
 rw [gx, show (decide ((1 : Int) ≤ b.length) && decide ((b.length : Int) ≤ 30)) = false from hc7, Bool.false_and]
 try simp only [cf] at hc7
 refine ak (ah (ag (js O Z (jn (aq (aH (X := Nat) (fun i => ⟨[(0, .c (.d (ie b))), (3, eI i)], []⟩) (fun i => i ≤ b.length ∧ ∀ j (h : j < b.length), j < i → aW b[j] = true) (fun i => b.length - i) 0 (Ent.env ⟨Z, Z, trivial⟩) ?_ (fun i hi => ?_)))))))
 exact ⟨dF _, fun j h hj => absurd hj (Nat.not_lt_zero j)⟩
 refine ah (ag (j2 O Z Z (eK O Z (js O Z (jn (ae O Z Z (fun hc11 => ?_) (fun hc11 => ?_)))))))
 try simp only [cf] at hc11
 refine ak (ah (aq (ag (j2 O Z Z (pq O Z Z (aB O Z Z Z Z (AB h1 h2) (af Z) Z Z Z Z Z (B0 := 18000) Z (js O Z (jn (ae O Z Z (fun hc18 => ?_) (fun hc18 => ?_))))))))))
 try simp only [cf] at hc18
 refine ag (js O Z (jr ?_))
 refine ⟨.inl Z, _, av, _, Z, ?_⟩
 rw [Int.toNat_natCast, aM (by omega)] at hc18
 rw [gx, iu i (by omega) hc18, Bool.false_and, Bool.and_false]
 try simp only [cf] at hc18
 refine ak (an (js O Z (ji O Z (js O Z (jn ?_)))))
 refine ⟨i + 1, Ent.env ⟨Z, Z, trivial⟩, ⟨by omega, fun j h hj => ?_⟩, by omega⟩
 by_cases e : j = i
 subst e; rw [Int.toNat_natCast, aM h] at hc18; exact hc18
 exact hi.2 j h (by omega)
 try simp only [cf] at hc11
 refine bH (ag (js O Z (aB O Z Z Z Z (AJ (k := 0) h1 h2 (dF _)) (af Z) Z Z Z Z Z (B0 := 21000) Z (js O Z (eK O Z (j2 O Z Z (jr ?_)))))))
 refine ⟨.inl Z, _, av, _, Z, ?_⟩
 rw [gx, show (decide ((1 : Int) ≤ b.length) && decide ((b.length : Int) ≤ 30)) = true from hc7, kb (fun j hj => hi.2 j hj (by omega)), Bool.true_and, Bool.true_and]
variable {p : Pm}
theorem c55 : MQ h1 h2 27 [ptr p.data] [] (Plain (eB (iO p))) := by
 refine aY ?_ Z
 refine jB 22 h1 h2 Tryz.func27 Z Z Z fun O hF => ?_
 refine ag (js O Z (bn (j4 O Z Z Z Z (bq [(6, _), (2, _), (0, _)] [] ⟨Z, Z, Z, trivial⟩ Z (aB O Z Z Z Z (wa h1 h2) (af Z) Z Z Z Z Z (B0 := 8000) Z (js O Z (bq [(8, _), (2, _), (0, _)] [] ⟨Z, Z, Z, trivial⟩ Z (aw 5 Z Z Z (fun hx => ab hx Z Z Z (V O Z) Z Z ( ab hx Z Z Z (V O Z) Z Z ( ab hx Z Z Z (V O Z) Z Z ( ab hx Z Z Z (V O Z) Z Z ( bG O hx Z Z Z Z (AK h1 h2) (af Z) Z Z Z Z Z Z Z (B0 := 14000) Z ( AN.nil)))))) Z Z (aa (ar O Z Z Z Z Z) Z Z Z (js O Z (bq [(15, _), (2, _), (0, _)] [] ⟨Z, Z, Z, trivial⟩ Z (aw 5 Z Z Z (fun hx => ab hx Z Z Z (V O Z) Z Z ( ab hx Z Z Z (V O Z) Z Z ( ab hx Z Z Z (V O Z) Z Z ( ab hx Z Z Z (V O Z) Z Z ( bG O hx Z Z Z Z (wa h1 h2) (af Z) Z Z Z Z Z Z Z (B0 := 21000) Z ( AN.nil)))))) Z Z (aa (ar O Z Z Z Z Z) Z Z Z (js O Z (jf [2] Z (jr ?_))))))))))))))))
 refine ⟨.inl Z, _, av, _, Z, ?_⟩
 rw [Bool.cond_false_right, Bool.cond_false_right, Bool.and_assoc]; rfl
variable {vars : List Int}
theorem AI {cells : List Int} (h : t.term = true) (hv : ck vars 4 = true) : MQ h1 h2 44 [ptr t.cells, ptr [cG vars, cG cells]] [] (Plain (eI (aT t vars))) := by
 refine aY ?_ Z
 refine jB 38 h1 h2 Tryz.func44 Z Z Z fun O hF => ?_
 have ht := lC h
 have hs := dV hv
 have hlen : t.xs.length ≤ vars.length := by omega
 refine ag (js O Z (bn (j4 O Z Z Z Z (js O Z (jf [5,4,0,1] Z (jn (ah (ag (js O Z (jn (aq (aH (X := Nat) (fun i => ⟨[(0, ptr t.cells), (1, ptr [cG vars, cG cells]), (5, eI (t.c + dS (t.xs.take i) (vars.take i))), (6, eI i)], []⟩) (fun i => i ≤ t.xs.length) (fun i => t.xs.length - i) 0 (Ent.env ⟨Z, Z, by simp [dS, cQ, ax], Z, trivial⟩) ?_ (fun i hi => ?_)))))))))))))
 exact dF _
 refine ah (ag (j4 O Z Z Z Z (js O Z (eK O Z (js O Z (jf [17,0,1,5,6] Z (jn (ae O Z Z (fun hc17 => ?_) (fun hc17 => ?_)))))))))
 try simp only [cf] at hc17
 refine ak (ah (aq ?_))
 have hd := ng ht.2.1 hs.1 hi (Nat.le_trans hi hlen)
 have hds := gS (xs := t.xs) (ys := vars) (i := i) (by omega) (by omega)
 have hn := zy.1 ht.1
 have hm := nd (zy.1 (List.all_eq_true.1 ht.2.1 _ (List.getElem_mem (show i < t.xs.length by omega)))) (zD.1 (List.all_eq_true.1 hs.1 _ (List.getElem_mem (show i < vars.length by omega))))
 rw [← aM (show i < t.xs.length by omega), ← aM (show i < vars.length by omega)] at hm
 refine fc O [_,_,_,_,_,_,_,_,_,_,_,_,_,_,_,_,_,_] [pn [] 0 0, pn [] 0 0, pn [1] 0 0, pn [1,2] 0 0, pn [1,2,3] 0 0, pn [] 0 0, pn (rg 1 5) 0 0, pn (rg 1 6) 0 0, pn [] 0 0, pn [8] 0 0, pn [8,9] 0 0, pn [8,9,10] 0 0, pn [] 0 0, pn (rg 8 5) 0 0, pn (rg 8 6) 0 0, pn (rg 1 14) 0 0, pn (rg 0 16) 0 0, pn (rg 0 17) 0 0] [] [_] (kc O Z (kc O Z (kc O Z (kc O Z (kc O Z (kc O Z (ai (vD O Z) (kc O Z (kc O Z (kc O Z (kc O Z (kc O Z (kc O Z (ai (vD O Z) (kc O Z (ai (bc O Z Z (Int.le_trans (by decide) hm.1) (Int.le_trans hm.2 (by decide))) (ai (bc O Z Z (show (-9223372036854775808 : Int) ≤ t.c + dS (t.xs.take i) (vars.take i) + t.xs.getD i default * vars.getD i default by omega) (show t.c + dS (t.xs.take i) (vars.take i) + t.xs.getD i default * vars.getD i default ≤ 9223372036854775807 by omega)) (kc O Z trivial)))))))))))))))))) ?_
 refine lm (Ent.to (e' := [(5, _), (17, _), (0, _), (1, _), (6, _)]) (H' := []) ⟨Z, Z, Z, Z, Z, trivial⟩ Z) (an (js O Z (ji O Z (js O Z (jf [6,5,17,0,1] Z (jn ?_))))))
 refine ⟨i + 1, Ent.to ⟨Z, Z, ?_, Z, trivial⟩ Z, by omega, by omega⟩
 exact congrArg (fun z => some (eI z)) (by rw [hds]; show t.c + dS (t.xs.take i) (vars.take i) + t.xs.getD i default * vars.getD i default = _; omega)
 try simp only [cf] at hc17
 refine bH (ag (j2 O Z Z (jr ?_)))
 refine ⟨.inl Z, _, av, _, Z, ?_⟩
 obtain rfl : i = t.xs.length := by omega
 rw [lj (cN _)]; rfl
theorem gF (h : t.term = true) (hv : ck vars 4 = true) : MQ h1 h2 90 [.agg (t.cells.map .d), cz vars] [] (Plain (eI (aT t vars))) := by
 refine aY ?_ Z
 refine jB 28 h1 h2 Tryz.func90 Z Z Z fun O hF => ?_
 have ht := lC h
 have hs := dV hv
 have hlen : t.xs.length ≤ vars.length := by omega
 refine ag (jx O Z (js O Z (bn (j3 O Z Z Z (jn (ah (ag (j2 O Z Z (eK O Z (js O Z (jn (aq (aH (X := Nat) (fun i => ⟨[(1, cz vars), (5, eI (t.c + dS (t.xs.take i) (vars.take i))), (11, .c (.d (cG t.xs))), (12, eI t.xs.length), (13, eI i)], []⟩) (fun i => i ≤ t.xs.length) (fun i => t.xs.length - i) 0 (am [] Z Z ⟨Z, by simp [dS, cQ, ax], Z, by simp [ax], Z, trivial⟩ Z) ?_ (fun i hi => ?_))))))))))))))
 exact dF _
 refine ag (js O Z (jn (ah (ae O Z Z (fun hc14 => ?_) (fun hc14 => ?_)))))
 try simp only [cf] at hc14
 refine ak (ah (aq (ag (js O Z (pq O Z Z (j3 O Z Z Z (jn (an (j4 O Z Z Z Z (pq O Z Z (js O Z ?_)))))))))))
 have hd := ng ht.2.1 hs.1 hi (Nat.le_trans hi hlen)
 have hds := gS (xs := t.xs) (ys := vars) (i := i) (by omega) (by omega)
 have hn := zy.1 ht.1
 have hm := nd (zy.1 (List.all_eq_true.1 ht.2.1 _ (List.getElem_mem (show i < t.xs.length by omega)))) (zD.1 (List.all_eq_true.1 hs.1 _ (List.getElem_mem (show i < vars.length by omega))))
 rw [← aM (show i < t.xs.length by omega), ← aM (show i < vars.length by omega)] at hm
 refine aa (bc O Z Z (Int.le_trans (by decide) hm.1) (Int.le_trans hm.2 (by decide))) Z Z Z (aa (bc O Z Z (show (-9223372036854775808 : Int) ≤ t.c + dS (t.xs.take i) (vars.take i) + t.xs.getD i default * vars.getD i default by omega) (show t.c + dS (t.xs.take i) (vars.take i) + t.xs.getD i default * vars.getD i default ≤ 9223372036854775807 by omega)) Z Z Z (js O Z (jn (an (ji O Z (js O Z (jn ?_)))))))
 refine ⟨i + 1, Ent.to ⟨Z, ?_, Z, Z, Z, trivial⟩ Z, by omega, by omega⟩
 exact congrArg (fun z => some (eI z)) (by rw [hds]; show t.c + dS (t.xs.take i) (vars.take i) + t.xs.getD i default * vars.getD i default = _; omega)
 try simp only [cf] at hc14
 refine bH (ag (j2 O Z Z (jr ?_)))
 refine ⟨.inl Z, _, av, _, Z, ?_⟩
 obtain rfl : i = t.xs.length := by omega
 rw [lj (cN _)]; rfl
abbrev cT (t : Tm) : A := .agg (t.cells.map .d)
def eL (lo hi x : Int) : Bool := decide (lo ≤ x) && decide (x ≤ hi)

variable {x : Int}
theorem n4 {lo hi : Int} : MQ h1 h2 55 [eI x, eI lo, eI hi] [] (Plain (eB (eL lo hi x))) := by
 refine aY ?_ Z
 refine jB 15 h1 h2 Tryz.func55 Z Z Z fun O hF => ?_
 refine ag (js O Z (bn (j4 O Z Z Z Z (aw 3 Z Z Z (fun hx => ab hx Z Z Z (V O Z) Z Z ( ab hx Z Z Z (V O Z) Z Z ( ab hx Z Z Z (V O Z) Z Z ( AN.nil)))) Z Z (aa (ar O Z Z Z Z Z) Z Z Z (js O Z (jr ?_)))))))
 refine ⟨.inl Z, _, av, _, Z, ?_⟩
 rw [Bool.cond_false_right]; rfl
variable {xs : List Int}
theorem vV {lo hi : Int} : MQ h1 h2 86 [cz xs, eI lo, eI hi] [] (Plain (eB (xs.all (eL lo hi)))) := by
 refine aY ?_ Z
 refine jB 21 h1 h2 Tryz.func86 Z Z Z fun O hF => ?_
 have hl : xs.length ≤ L := by simpa [As.fact, A.fact, M.fact, D.fact, Ds.fact] using hF.1.1
 refine ag (js O Z (jn (ah (ag (js O Z (eK O Z (js O Z (jn (aq (aH (X := Nat) (fun i => ⟨[(1, eI lo), (2, eI hi), (9, cz xs), (10, eI xs.length), (11, eI i)], []⟩) (fun i => i ≤ xs.length ∧ ∀ j (h : j < xs.length), j < i → eL lo hi xs[j] = true) (fun i => xs.length - i) 0 (Ent.env ⟨Z, Z, Z, Z, Z, trivial⟩) ?_ (fun i hi => ?_)))))))))))
 exact ⟨dF _, fun j h hj => absurd hj (Nat.not_lt_zero j)⟩
 refine ag (js O Z (jn (ah (ae O Z Z (fun hc12 => ?_) (fun hc12 => ?_)))))
 try simp only [cf] at hc12
 refine ak (ah (aq (ag (pq O Z Z (j2 O Z Z (bn (j3 O Z Z Z (aB O Z Z Z Z (n4 h1 h2) (af Z) Z Z Z Z Z (B0 := 19000) Z (js O Z (jn (ae O Z Z (fun hc19 => ?_) (fun hc19 => ?_))))))))))))
 try simp only [cf] at hc19
 refine ag (js O Z (jr ?_))
 refine ⟨.inl Z, _, av, _, Z, ?_⟩
 rw [Int.toNat_natCast, aM (by omega)] at hc19
 rw [iu i (by omega) hc19]
 try simp only [cf] at hc19
 refine ak (an (ji O Z (js O Z (jn ?_))))
 refine ⟨i + 1, Ent.env ⟨Z, Z, Z, Z, Z, trivial⟩, ⟨by omega, fun j h hj => ?_⟩, by omega⟩
 by_cases e : j = i
 subst e; rw [Int.toNat_natCast, aM h] at hc19; exact hc19
 exact hi.2 j h (by omega)
 try simp only [cf] at hc12
 refine bH (ag (js O Z (jr ?_)))
 refine ⟨.inl Z, _, av, _, Z, ?_⟩
 rw [kb (fun j hj => hi.2 j hj (by omega))]
theorem Ax : MQ h1 h2 136 [eI x] [] (Plain (eB (num x))) := by
 refine aY ?_ Z
 refine jB 5 h1 h2 Tryz.func136 Z Z Z fun O hF => ?_
 refine ag (js O Z (bn (js O Z (aB O Z Z Z Z (n4 h1 h2) (af Z) Z Z Z Z Z (B0 := 5000) Z (js O Z (jr ?_))))))
 refine ⟨.inl Z, _, av, _, Z, ?_⟩
 first | rfl | skip
theorem uq (t : Tm) : (bif bif bif decide ((t.xs.length : Int) ≤ 10) then num t.c else false then t.xs.all num else false then bif decide ((t.xs.length : Int) = 0) then true else !decide (t.xs.getD ((t.xs.length : Int) - 1).toNat default = 0) else false) = t.ok := by
 unfold Tm.ok
 cases num t.c <;> cases t.xs.all num <;> simp
 by_cases h0 : t.xs = []
 simp [h0]
 have h1 : 0 < t.xs.length := List.length_pos_iff.2 h0
 by_cases h2 : (t.xs.length : Int) ≤ 10
 have h3 : ¬ (10 : Int) < t.xs.length := by omega
 simp [h0, h1, h2, h3]
 have h3 : (10 : Int) < t.xs.length := by omega
 simp [h2, h3]
theorem pu : MQ h1 h2 95 [cT t] [] (Plain (eB t.ok)) := by
 refine aY ?_ Z
 refine jB 32 h1 h2 Tryz.func95 Z Z Z fun O hF => ?_
 have hl : t.xs.length ≤ L := by simpa [As.fact, A.fact, M.fact, Ms.fact, D.fact, Ds.fact] using hF.1.2.1.1
 refine ag (jx O Z (js O Z (bn (j2 O Z Z (eK O Z (js O Z (jf [3,2,1,0] Z (bn (j3 O Z Z Z (jf [9,3,2,1,0] Z (aw 3 Z Z Z (fun hx => ab hx Z Z Z (V O Z) Z Z ( ab hx Z Z Z (V O Z) Z Z ( bG O hx Z Z Z Z (Ax h1 h2) (af Z) Z Z Z Z Z Z Z (B0 := 13000) Z ( AN.nil)))) Z Z (aa (ar O Z Z Z Z Z) Z Z Z (js O Z (jf [14,3,2,1,0] Z (aw 3 Z Z Z (fun hx => ab hx Z Z Z (V O Z) Z Z ( ab hx Z Z Z (V O Z) Z Z ( bG O hx Z Z Z Z (vV h1 h2) (af Z) Z Z Z Z Z Z Z (B0 := 18000) Z ( AN.nil)))) Z Z (aa (ar O Z Z Z Z Z) Z Z Z (js O Z (jf [19,3,2,1,0] Z (aw 11 Z Z Z (fun hx => ab hx Z Z Z (V O Z) Z Z ( ab hx Z Z Z (V O Z) Z Z ( ab hx Z Z Z (V O Z) Z Z ( lA 7 Z Z Z Z (fun hx' => ab hx' Z Z Z (V O Z) Z Z ( ab hx' Z Z Z (V O Z) Z Z ( ab hx' Z Z Z (V O Z) Z Z ( ab hx' Z Z Z (bc O Z Z (by first | omega | (simp only [cf] at *; omega)) (by first | omega | (simp only [cf] at *; omega))) Z Z ( ab hx' Z Z Z (bm O Z Z Z Z Z Z Z Z (by first | omega | (simp only [cf] at *; omega)) (li (by first | omega | (simp only [cf] at *; omega)) (by first | omega | (simp only [cf] at *; omega)))) Z Z ( ab hx' Z Z Z (V O Z) Z Z ( ab hx' Z Z Z (V O Z) Z Z ( AN.nil)))))))) Z Z ( ab hx Z Z Z (bi O Z Z Z Z Z) Z Z ( AN.nil)))))) Z Z (aa (ar O Z Z Z Z Z) Z Z Z (js O Z (jf [2,1,0] Z (jr ?_)))))))))))))))))))))))
 refine ⟨.inl Z, _, av, _, Z, ?_⟩
 exact congrArg eB (uq t)
theorem n2 : MQ h1 h2 134 [cT t] [] (Plain (eB t.term)) := by
 refine aY ?_ Z
 refine jB 11 h1 h2 Tryz.func134 Z Z Z fun O hF => ?_
 refine ag (jx O Z (js O Z (bn (js O Z (aB O Z Z Z Z (pu h1 h2) (af Z) Z Z Z Z Z (B0 := 5000) Z (js O Z (jf [5,2,1,0] Z (aw 4 Z Z Z (fun hx => ab hx Z Z Z (V O Z) Z Z ( ab hx Z Z Z (V O Z) Z Z ( ab hx Z Z Z (b9 O Z Z Z Z Z Z Z Z) Z Z ( ab hx Z Z Z (V O Z) Z Z ( AN.nil))))) Z Z (aa (ar O Z Z Z Z Z) Z Z Z (js O Z (jf [2,0] Z (jr ?_))))))))))))
 refine ⟨.inl Z, _, av, _, Z, ?_⟩
 rw [Bool.cond_false_right]; rfl
theorem x8 : MQ h1 h2 163 [cT t] [] (Plain (eB t.zero)) := by
 refine aY ?_ Z
 refine jB 12 h1 h2 Tryz.func163 Z Z Z fun O hF => ?_
 refine ag (jx O Z (js O Z (bn (j4 O Z Z Z Z (jf [6,2,1,0] Z (aw 4 Z Z Z (fun hx => ab hx Z Z Z (V O Z) Z Z ( ab hx Z Z Z (V O Z) Z Z ( ab hx Z Z Z (b9 O Z Z Z Z Z Z Z Z) Z Z ( ab hx Z Z Z (V O Z) Z Z ( AN.nil))))) Z Z (aa (ar O Z Z Z Z Z) Z Z Z (js O Z (jf [2,0] Z (jr ?_))))))))))
 refine ⟨.inl Z, _, av, _, Z, ?_⟩
 rw [Bool.cond_false_right]; rfl
theorem Ay : MQ h1 h2 133 [cT t] [] (Plain (eB !t.term)) := by
 refine aY ?_ Z
 refine jB 6 h1 h2 Tryz.func133 Z Z Z fun O hF => ?_
 refine ag (jx O Z (js O Z (bn (js O Z (jf [3,2,0] Z (aB O Z Z Z Z (n2 h1 h2) (af Z) Z Z Z Z Z (B0 := 5000) Z (j2 O Z Z (jf [2,0] Z (jr ?_)))))))))
 refine ⟨.inl Z, _, av, _, Z, ?_⟩
 first | rfl | skip
def pr (ts : List Tm) : Int := if ts.all Tm.term = true then -1 else (ts.findIdx fun t => !t.term : Nat)
theorem tU {ts : List Tm} (h : ∀ j (hj : j < ts.length), Tm.term ts[j] = true) : pr ts = -1 := by rw [pr, if_pos (kb h)]
theorem uJ {ts : List Tm} {i : Nat} (hi : i < ts.length) (h : ∀ j (hj : j < ts.length), j < i → Tm.term ts[j] = true) (hn : Tm.term ts[i] = false) : pr ts = i := by
 rw [pr, if_neg (by rw [iu i hi hn]; decide)]
 exact congrArg Nat.cast ((List.findIdx_eq hi).2 ⟨by simp [hn], fun j hj => by simp [h j (by omega) hj]⟩)
theorem tT {ts : List Tm} : decide (pr ts ≥ 0) = !ts.all Tm.term := by
 unfold pr
 cases h : ts.all Tm.term <;> simp
theorem Ar : MQ h1 h2 162 [cW ts, .c (.fn 133 [])] [] (Plain (eI (pr ts))) := by
 refine aY ?_ Z
 refine jB 19 h1 h2 Tryz.func162 Z Z Z fun O hF => ?_
 have hl : ts.length ≤ L := by simpa [As.fact, A.fact, M.fact, D.fact, Ds.fact] using hF.1.1
 refine ag (js O Z (jn (ah (ag (js O Z (eK O Z (js O Z (jn (aq (aH (X := Nat) (fun i => ⟨[(0, cW ts), (1, .c (.fn 133 [])), (7, eI ts.length), (8, eI i)], []⟩) (fun i => i ≤ ts.length ∧ ∀ j (h : j < ts.length), j < i → Tm.term ts[j] = true) (fun i => ts.length - i) 0 (Ent.env ⟨Z, Z, Z, Z, trivial⟩) ?_ (fun i hi => ?_)))))))))))
 exact ⟨dF _, fun j h hj => absurd hj (Nat.not_lt_zero j)⟩
 refine ag (js O Z (jn (ah (ae O Z Z (fun hc9 => ?_) (fun hc9 => ?_)))))
 try simp only [cf] at hc9
 refine ak (ah (aq (ag (j2 O Z Z (bn (j3 O Z Z Z (pq O Z Z (js O Z (aB O Z Z Z Z (Ay h1 h2) (af Z) Z Z Z Z Z (B0 := 17000) Z (jn (ae O Z Z (fun hc16 => ?_) (fun hc16 => ?_))))))))))))
 try simp only [cf] at hc16
 refine ag (j2 O Z Z (jr ?_))
 refine ⟨.inl Z, _, av, _, Z, ?_⟩
 rw [Int.toNat_natCast, aM (by omega)] at hc16
 rw [uJ (by omega) hi.2 hc16]
 try simp only [cf] at hc16
 refine ak (an (ji O Z (js O Z (jn ?_))))
 refine ⟨i + 1, Ent.env ⟨Z, Z, Z, Z, trivial⟩, ⟨by omega, fun j h hj => ?_⟩, by omega⟩
 by_cases e : j = i
 subst e; rw [Int.toNat_natCast, aM h] at hc16; exact hc16
 exact hi.2 j h (by omega)
 try simp only [cf] at hc9
 refine bH (ag (js O Z (jr ?_)))
 refine ⟨.inl Z, _, av, _, Z, ?_⟩
 rw [tU (fun j hj => hi.2 j hj (by omega))]
theorem Az : MQ h1 h2 132 [cW ts, .c (.fn 133 [])] [] (Plain (eB !ts.all Tm.term)) := by
 refine aY ?_ Z
 refine jB 9 h1 h2 Tryz.func132 Z Z Z fun O hF => ?_
 refine ag (js O Z (bn (j2 O Z Z (aB O Z Z Z Z (Ar h1 h2) (.cons (.c .d) (.cons (.c (.fn .nil)) .nil)) Z Z Z Z Z (B0 := 8000) Z (j2 O Z Z (jr ?_))))))
 refine ⟨.inl Z, _, av, _, Z, ?_⟩
 exact congrArg eB tT
theorem vZ : MQ h1 h2 85 [cW ts, eI n] [] (Plain (eB (bW ts n))) := by
 refine aY ?_ Z
 refine jB 14 h1 h2 Tryz.func85 Z Z Z fun O hF => ?_
 refine ag (js O Z (bn (js O Z (eK O Z (j3 O Z Z Z (aw 3 Z Z Z (fun hx => ab hx Z Z Z (V O Z) Z Z ( bG O hx Z Z Z Z (Az h1 h2) (.cons (.c .d) (.cons (.c (.fn .nil)) .nil)) Z Z Z Z Z Z Z (B0 := 12000) Z ( ab hx Z Z Z (V O Z) Z Z ( AN.nil)))) Z Z (aa (ar O Z Z Z Z Z) Z Z Z (js O Z (jr ?_)))))))))
 refine ⟨.inl Z, _, av, _, Z, ?_⟩
 rw [Bool.cond_false_right, Bool.not_not, Bool.and_comm]; rfl
theorem ya : MQ h1 h2 164 [eI x] [] (Plain (eB (eL 0 3 x))) := by
 refine aY ?_ Z
 refine jB 5 h1 h2 Tryz.func164 Z Z Z fun O hF => ?_
 refine ag (js O Z (bn (js O Z (aB O Z Z Z Z (n4 h1 h2) (af Z) Z Z Z Z Z (B0 := 5000) Z (js O Z (jr ?_))))))
 refine ⟨.inl Z, _, av, _, Z, ?_⟩
 first | rfl | skip
theorem Au : MQ h1 h2 165 [eI x] [] (Plain (eB (eL 0 3 x))) := by
 refine aY ?_ Z
 refine jB 5 h1 h2 Tryz.func165 Z Z Z fun O hF => ?_
 refine ag (js O Z (bn (js O Z (aB O Z Z Z Z (n4 h1 h2) (af Z) Z Z Z Z Z (B0 := 5000) Z (js O Z (jr ?_))))))
 refine ⟨.inl Z, _, av, _, Z, ?_⟩
 first | rfl | skip
theorem ye : MQ h1 h2 92 [eI x] [] (Plain (eB (jk x))) := by
 refine aY ?_ Z
 refine jB 5 h1 h2 Tryz.func92 Z Z Z fun O hF => ?_
 refine ag (js O Z (bn (js O Z (aB O Z Z Z Z (n4 h1 h2) (af Z) Z Z Z Z Z (B0 := 5000) Z (js O Z (jr ?_))))))
 refine ⟨.inl Z, _, av, _, Z, ?_⟩
 first | rfl | skip
def bQ (s : Sm) : Int := if aW s = true then aN s.kind else -1

theorem bP {t : Tm} (h : t.zero = true) : t.term = true := by
 simp only [Tm.zero, bM, decide_eq_true_eq] at h
 obtain ⟨h1, h2⟩ := h
 have h3 : t.xs = [] := List.eq_nil_of_length_eq_zero (by omega)
 simp [Tm.term, Tm.ok, num, h1, h3]
theorem gh {ts : List Tm} (h : decide ((ts.length : Int) = 0) = true) : bW ts 6 = true := by
 have h3 : ts = [] := List.eq_nil_of_length_eq_zero (by have := bz h; omega)
 subst h3; rfl
theorem gg {ts : List Tm} : decide ((0 : Int) < ts.length) = !decide ((ts.length : Int) = 0) := by
 by_cases h : (ts.length : Int) = 0
 simp [h]
 have : (0 : Int) < ts.length := by omega
 simp only [h, this, decide_true, decide_false, Bool.not_false]
def m7 (n8 st it tf su sz ix iz k8 fp na v3 v0 k5 e3 e0 : Bool) : Bool :=
  bif (bif (bif (bif !n8 then true else !st) then true else !it) then true else !tf) then false
  else bif (bif (bif (bif !su then !sz else false) then true else (bif !ix then !iz else false)) then true else (bif !k8 then fp else false)) then false
  else bif (bif (bif na then !v3 else false) then true else (bif !na then !v0 else false)) then false
  else bif k5 then e3 else e0
theorem kb0 : ∀ st it tf sz iz f0 v3 v0 e3 e0 : Bool, (sz = true → st = true) → (iz = true → it = true) → (f0 = true → tf = true) → m7 true st it tf false sz false iz false (!f0) false v3 v0 false e3 e0 = (bif (bif (bif (bif v0 then e0 else false) then sz else false) then iz else false) then f0 else false) := by decide
theorem xY (s : Sm) (hk : decide (s.kind = 0) = true) : aW s = (bif (bif (bif (bif decide (s.var = 0) then decide (s.event = 0) else false) then s.sum.zero else false) then s.index.zero else false) then decide ((s.facts.length : Int) = 0) else false) := by
 rw [← kb0 s.sum.term s.index.term (bW s.facts 6) s.sum.zero s.index.zero (decide ((s.facts.length : Int) = 0)) (eL 0 3 s.var) (decide (s.var = 0)) (eL 0 3 s.event) (decide (s.event = 0)) bP bP gh, ← gg]
 cases s with
 | mk kind var event sum index facts =>
  have hk := bz hk
  simp only at hk
  subst hk
  rfl
theorem kb1 : ∀ st it tf sz iz f0 v3 v0 e3 e0 : Bool, (sz = true → st = true) → (iz = true → it = true) → (f0 = true → tf = true) → m7 true st it tf false sz false iz false (!f0) false v3 v0 false e3 e0 = (bif (bif (bif (bif v0 then e0 else false) then sz else false) then iz else false) then f0 else false) := by decide
theorem xX (s : Sm) (hk : decide (s.kind = 1) = true) : aW s = (bif (bif (bif (bif decide (s.var = 0) then decide (s.event = 0) else false) then s.sum.zero else false) then s.index.zero else false) then decide ((s.facts.length : Int) = 0) else false) := by
 rw [← kb1 s.sum.term s.index.term (bW s.facts 6) s.sum.zero s.index.zero (decide ((s.facts.length : Int) = 0)) (eL 0 3 s.var) (decide (s.var = 0)) (eL 0 3 s.event) (decide (s.event = 0)) bP bP gh, ← gg]
 cases s with
 | mk kind var event sum index facts =>
  have hk := bz hk
  simp only at hk
  subst hk
  rfl
theorem kb2 : ∀ st it tf sz iz f0 v3 v0 e3 e0 : Bool, (sz = true → st = true) → (iz = true → it = true) → (f0 = true → tf = true) → m7 true st it tf true sz false iz false (!f0) true v3 v0 false e3 e0 = (bif (bif (bif (bif v3 then e0 else false) then st else false) then iz else false) then f0 else false) := by decide
theorem xW (s : Sm) (hk : decide (s.kind = 2) = true) : aW s = (bif (bif (bif (bif eL 0 3 s.var then decide (s.event = 0) else false) then s.sum.term else false) then s.index.zero else false) then decide ((s.facts.length : Int) = 0) else false) := by
 rw [← kb2 s.sum.term s.index.term (bW s.facts 6) s.sum.zero s.index.zero (decide ((s.facts.length : Int) = 0)) (eL 0 3 s.var) (decide (s.var = 0)) (eL 0 3 s.event) (decide (s.event = 0)) bP bP gh, ← gg]
 cases s with
 | mk kind var event sum index facts =>
  have hk := bz hk
  simp only at hk
  subst hk
  rfl
theorem kb3 : ∀ st it tf sz iz f0 v3 v0 e3 e0 : Bool, (sz = true → st = true) → (iz = true → it = true) → (f0 = true → tf = true) → m7 true st it tf false sz true iz false (!f0) true v3 v0 false e3 e0 = (bif (bif (bif (bif v3 then e0 else false) then sz else false) then it else false) then f0 else false) := by decide
theorem xV (s : Sm) (hk : decide (s.kind = 3) = true) : aW s = (bif (bif (bif (bif eL 0 3 s.var then decide (s.event = 0) else false) then s.sum.zero else false) then s.index.term else false) then decide ((s.facts.length : Int) = 0) else false) := by
 rw [← kb3 s.sum.term s.index.term (bW s.facts 6) s.sum.zero s.index.zero (decide ((s.facts.length : Int) = 0)) (eL 0 3 s.var) (decide (s.var = 0)) (eL 0 3 s.event) (decide (s.event = 0)) bP bP gh, ← gg]
 cases s with
 | mk kind var event sum index facts =>
  have hk := bz hk
  simp only at hk
  subst hk
  rfl
theorem kb4 : ∀ st it tf sz iz f0 v3 v0 e3 e0 : Bool, (sz = true → st = true) → (iz = true → it = true) → (f0 = true → tf = true) → m7 true st it tf true sz true iz false (!f0) false v3 v0 false e3 e0 = (bif (bif (bif (bif v0 then e0 else false) then st else false) then it else false) then f0 else false) := by decide
theorem xU (s : Sm) (hk : decide (s.kind = 4) = true) : aW s = (bif (bif (bif (bif decide (s.var = 0) then decide (s.event = 0) else false) then s.sum.term else false) then s.index.term else false) then decide ((s.facts.length : Int) = 0) else false) := by
 rw [← kb4 s.sum.term s.index.term (bW s.facts 6) s.sum.zero s.index.zero (decide ((s.facts.length : Int) = 0)) (eL 0 3 s.var) (decide (s.var = 0)) (eL 0 3 s.event) (decide (s.event = 0)) bP bP gh, ← gg]
 cases s with
 | mk kind var event sum index facts =>
  have hk := bz hk
  simp only at hk
  subst hk
  rfl
theorem kb5 : ∀ st it tf sz iz f0 v3 v0 e3 e0 : Bool, (sz = true → st = true) → (iz = true → it = true) → (f0 = true → tf = true) → m7 true st it tf false sz false iz false (!f0) false v3 v0 true e3 e0 = (bif (bif (bif (bif v0 then e3 else false) then sz else false) then iz else false) then f0 else false) := by decide
theorem xT (s : Sm) (hk : decide (s.kind = 5) = true) : aW s = (bif (bif (bif (bif decide (s.var = 0) then eL 0 3 s.event else false) then s.sum.zero else false) then s.index.zero else false) then decide ((s.facts.length : Int) = 0) else false) := by
 rw [← kb5 s.sum.term s.index.term (bW s.facts 6) s.sum.zero s.index.zero (decide ((s.facts.length : Int) = 0)) (eL 0 3 s.var) (decide (s.var = 0)) (eL 0 3 s.event) (decide (s.event = 0)) bP bP gh, ← gg]
 cases s with
 | mk kind var event sum index facts =>
  have hk := bz hk
  simp only at hk
  subst hk
  rfl
theorem kb6 : ∀ st it tf sz iz f0 v3 v0 e3 e0 : Bool, (sz = true → st = true) → (iz = true → it = true) → (f0 = true → tf = true) → m7 true st it tf true sz false iz false (!f0) false v3 v0 false e3 e0 = (bif (bif (bif (bif v0 then e0 else false) then st else false) then iz else false) then f0 else false) := by decide
theorem xS (s : Sm) (hk : decide (s.kind = 6) = true) : aW s = (bif (bif (bif (bif decide (s.var = 0) then decide (s.event = 0) else false) then s.sum.term else false) then s.index.zero else false) then decide ((s.facts.length : Int) = 0) else false) := by
 rw [← kb6 s.sum.term s.index.term (bW s.facts 6) s.sum.zero s.index.zero (decide ((s.facts.length : Int) = 0)) (eL 0 3 s.var) (decide (s.var = 0)) (eL 0 3 s.event) (decide (s.event = 0)) bP bP gh, ← gg]
 cases s with
 | mk kind var event sum index facts =>
  have hk := bz hk
  simp only at hk
  subst hk
  rfl
theorem kb7 : ∀ st it tf sz iz f0 v3 v0 e3 e0 : Bool, (sz = true → st = true) → (iz = true → it = true) → (f0 = true → tf = true) → m7 true st it tf true sz false iz false (!f0) false v3 v0 false e3 e0 = (bif (bif (bif (bif v0 then e0 else false) then st else false) then iz else false) then f0 else false) := by decide
theorem xR (s : Sm) (hk : decide (s.kind = 7) = true) : aW s = (bif (bif (bif (bif decide (s.var = 0) then decide (s.event = 0) else false) then s.sum.term else false) then s.index.zero else false) then decide ((s.facts.length : Int) = 0) else false) := by
 rw [← kb7 s.sum.term s.index.term (bW s.facts 6) s.sum.zero s.index.zero (decide ((s.facts.length : Int) = 0)) (eL 0 3 s.var) (decide (s.var = 0)) (eL 0 3 s.event) (decide (s.event = 0)) bP bP gh, ← gg]
 cases s with
 | mk kind var event sum index facts =>
  have hk := bz hk
  simp only at hk
  subst hk
  rfl
theorem kb8 : ∀ st it tf sz iz f0 v3 v0 e3 e0 : Bool, (sz = true → st = true) → (iz = true → it = true) → (f0 = true → tf = true) → m7 true st it tf true sz false iz true (!f0) false v3 v0 false e3 e0 = (bif (bif (bif (bif v0 then e0 else false) then st else false) then iz else false) then tf else false) := by decide
theorem xQ (s : Sm) (hk : decide (s.kind = 8) = true) : aW s = (bif (bif (bif (bif decide (s.var = 0) then decide (s.event = 0) else false) then s.sum.term else false) then s.index.zero else false) then bW s.facts 6 else false) := by
 rw [← kb8 s.sum.term s.index.term (bW s.facts 6) s.sum.zero s.index.zero (decide ((s.facts.length : Int) = 0)) (eL 0 3 s.var) (decide (s.var = 0)) (eL 0 3 s.event) (decide (s.event = 0)) bP bP gh, ← gg]
 cases s with
 | mk kind var event sum index facts =>
  have hk := bz hk
  simp only at hk
  subst hk
  rfl
theorem Av {s : Sm} : MQ h1 h2 135 [aSm s] [] (Plain (eI (bQ s))) := by
 refine aY ?_ Z
 refine jB 185 h1 h2 Tryz.func135 Z Z Z fun O hF => ?_
 refine ag (jx O Z (js O Z (jn (ah (fc O [_,_,_,_,_,_,_,_,_,_,_,_,_,_,_,_,_,_,_,_,_] [pn [] 0 2, pn [0] 0 2, pn [0,1] 0 2, pn [] 0 2, pn [3] 0 2, pn [3,4] 0 2, pn [] 0 0, pn [6] 0 0, pe [6,7] 0, pn [] 0 1, pn [9] 0 1, pe (rg 6 5) 1, pn [] 0 2, pn [12] 0 2, pn [12,13] 0 2, pn [12,13,14] 0 2, pn ([0,1,2]++rg 6 6) 2 2, pn (rg 0 12++[16]) 2 2, pn (rg 0 12++[16,17]) 2 2, pn (rg 0 12++[16,17,18]) 2 2, pn (rg 0 20) 2 2] [8,11] [_,_,_] (ai (kc O Z (kc O Z (V O Z))) (ai (kc O Z (kc O Z (V O Z))) (ai (kc O Z (kc O Z (V O Z))) (ai (kc O Z (kc O Z (V O Z))) (ai (kc O Z (kc O Z (V O Z))) (ai (kc O Z (kc O Z (V O Z))) (kc O Z (kc O Z (ai (bL O (B0 := 18000) Z Z Z Z (x8 h1 h2) (af Z) Z Z Z Z Z) (ai (kc O Z (V O Z)) (ai (kc O Z (V O Z)) (ai (bL O (B0 := 21000) Z Z Z Z (x8 h1 h2) (af Z) Z Z Z Z Z) (ai (kc O Z (kc O Z (V O Z))) (ai (kc O Z (kc O Z (V O Z))) (ai (ai (b9 O Z Z Z Z Z Z Z Z) (ai (b9 O Z Z Z Z Z Z Z Z) (b9 O Z Z Z Z Z Z Z Z))) (ai (kc O Z (kc O Z (V O Z))) (kc O Z (kc O Z (kc O Z (kc O Z (kc O Z trivial))))))))))))))))))))) ?_)))))
 refine jw [7,6,5,4,3,2,1,0] Z (bK ?_)
 refine ag (js O Z (jn (ah (ag (j2 O Z Z (jn (aq (ag (j2 O Z Z (jn (ae O Z Z (fun hc27 => ?_) (fun hc27 => ?_))))))))))))
 refine ag (j2 O Z Z (jf [30,28,26,25,8,7,6,5,4,3,2,1,0] Z (aw 1 Z Z Z (fun hx => ab hx Z Z Z (V O Z) Z Z ( AN.nil)) Z Z (aa (ar O Z Z Z Z Z) Z Z Z (js O Z (jf [33,28,26,25,8,7,6,5,4,3,2,1,0] Z (aw 1 Z Z Z (fun hx => ab hx Z Z Z (V O Z) Z Z ( AN.nil)) Z Z (aa (ar O Z Z Z Z Z) Z Z Z (js O Z (jf [36,28,26,25,8,7,6,5,4,3,2,1,0] Z (aw 1 Z Z Z (fun hx => ab hx Z Z Z (V O Z) Z Z ( AN.nil)) Z Z (aa (ar O Z Z Z Z Z) Z Z Z (js O Z (jf [39,28,26,25,8,7,6,5,4,3,2,1,0] Z (aw 1 Z Z Z (fun hx => ab hx Z Z Z (V O Z) Z Z ( AN.nil)) Z Z (aa (ar O Z Z Z Z Z) Z Z Z (jf [41,28,26,25,8,7,6,5,4,3,2,1,0] Z (jn (ae O Z Z (fun hc41 => ?_) (fun hc41 => ?_))))))))))))))))))))
 refine an (js O Z (jn (ag (j2 O Z Z (jf [2,28,26,25,7,6,5,4,3,1,0] Z (jr ?_))))))
 refine ⟨.inl Z, _, av, _, Z, ?_⟩
 rw [bQ, xY s hc27, hc41]
 simp [aN, bz hc27]
 refine ak (ag (j2 O Z Z (jf [2,28,26,25,7,6,5,4,3,1,0] Z (jr ?_))))
 refine ⟨.inl Z, _, av, _, Z, ?_⟩
 rw [bQ, xY s hc27, hc41]
 simp
 refine ag (j2 O Z Z (jf [42,28,26,25,8,7,6,5,4,3,2,1,0] Z (jn (ae O Z Z (fun hc42 => ?_) (fun hc42 => ?_)))))
 refine ag (j2 O Z Z (jf [45,28,26,25,8,7,6,5,4,3,2,1,0] Z (aw 1 Z Z Z (fun hx => ab hx Z Z Z (V O Z) Z Z ( AN.nil)) Z Z (aa (ar O Z Z Z Z Z) Z Z Z (js O Z (jf [48,28,26,25,8,7,6,5,4,3,2,1,0] Z (aw 1 Z Z Z (fun hx => ab hx Z Z Z (V O Z) Z Z ( AN.nil)) Z Z (aa (ar O Z Z Z Z Z) Z Z Z (js O Z (jf [51,28,26,25,8,7,6,5,4,3,2,1,0] Z (aw 1 Z Z Z (fun hx => ab hx Z Z Z (V O Z) Z Z ( AN.nil)) Z Z (aa (ar O Z Z Z Z Z) Z Z Z (js O Z (jf [54,28,26,25,8,7,6,5,4,3,2,1,0] Z (aw 1 Z Z Z (fun hx => ab hx Z Z Z (V O Z) Z Z ( AN.nil)) Z Z (aa (ar O Z Z Z Z Z) Z Z Z (jf [56,28,26,25,8,7,6,5,4,3,2,1,0] Z (jn (ae O Z Z (fun hc56 => ?_) (fun hc56 => ?_))))))))))))))))))))
 refine an (js O Z (jn (ag (j2 O Z Z (jf [2,28,26,25,7,6,5,4,3,1,0] Z (jr ?_))))))
 refine ⟨.inl Z, _, av, _, Z, ?_⟩
 rw [bQ, xX s hc42, hc56]
 simp [aN, bz hc42]
 refine ak (ag (j2 O Z Z (jf [2,28,26,25,7,6,5,4,3,1,0] Z (jr ?_))))
 refine ⟨.inl Z, _, av, _, Z, ?_⟩
 rw [bQ, xX s hc42, hc56]
 simp
 refine ag (j2 O Z Z (jf [57,28,26,25,8,7,6,5,4,3,2,1,0] Z (jn (ae O Z Z (fun hc57 => ?_) (fun hc57 => ?_)))))
 refine ag (j2 O Z Z (jf [60,28,26,25,8,7,6,5,4,3,2,1,0] Z (aB O Z Z Z Z (ya h1 h2) (af Z) Z Z Z Z Z (B0 := 62000) Z (js O Z (jf [62,28,26,25,8,7,6,5,4,3,2,1,0] Z (aw 1 Z Z Z (fun hx => ab hx Z Z Z (V O Z) Z Z ( AN.nil)) Z Z (aa (ar O Z Z Z Z Z) Z Z Z (js O Z (jf [65,28,26,25,8,7,6,5,4,3,2,1,0] Z (aw 3 Z Z Z (fun hx => ab hx Z Z Z (V O Z) Z Z ( ab hx Z Z Z (V O Z) Z Z ( bG O hx Z Z Z Z (n2 h1 h2) (af Z) Z Z Z Z Z Z Z (B0 := 69000) Z ( AN.nil)))) Z Z (aa (ar O Z Z Z Z Z) Z Z Z (js O Z (jf [70,28,26,25,8,7,6,5,4,3,2,1,0] Z (aw 1 Z Z Z (fun hx => ab hx Z Z Z (V O Z) Z Z ( AN.nil)) Z Z (aa (ar O Z Z Z Z Z) Z Z Z (js O Z (jf [73,28,26,25,8,7,6,5,4,3,2,1,0] Z (aw 1 Z Z Z (fun hx => ab hx Z Z Z (V O Z) Z Z ( AN.nil)) Z Z (aa (ar O Z Z Z Z Z) Z Z Z (jf [75,28,26,25,8,7,6,5,4,3,2,1,0] Z (jn (ae O Z Z (fun hc75 => ?_) (fun hc75 => ?_)))))))))))))))))))))))
 refine an (js O Z (jn (ag (j2 O Z Z (jf [2,28,26,25,7,6,5,4,3,1,0] Z (jr ?_))))))
 refine ⟨.inl Z, _, av, _, Z, ?_⟩
 rw [bQ, xW s hc57, hc75]
 simp [aN, bz hc57]
 refine ak (ag (j2 O Z Z (jf [2,28,26,25,7,6,5,4,3,1,0] Z (jr ?_))))
 refine ⟨.inl Z, _, av, _, Z, ?_⟩
 rw [bQ, xW s hc57, hc75]
 simp
 refine ag (j2 O Z Z (jf [76,28,26,25,8,7,6,5,4,3,2,1,0] Z (jn (ae O Z Z (fun hc76 => ?_) (fun hc76 => ?_)))))
 refine ag (j2 O Z Z (jf [79,28,26,25,8,7,6,5,4,3,2,1,0] Z (aB O Z Z Z Z (ya h1 h2) (af Z) Z Z Z Z Z (B0 := 81000) Z (js O Z (jf [81,28,26,25,8,7,6,5,4,3,2,1,0] Z (aw 1 Z Z Z (fun hx => ab hx Z Z Z (V O Z) Z Z ( AN.nil)) Z Z (aa (ar O Z Z Z Z Z) Z Z Z (js O Z (jf [84,28,26,25,8,7,6,5,4,3,2,1,0] Z (aw 1 Z Z Z (fun hx => ab hx Z Z Z (V O Z) Z Z ( AN.nil)) Z Z (aa (ar O Z Z Z Z Z) Z Z Z (js O Z (jf [87,28,26,25,8,7,6,5,4,3,2,1,0] Z (aw 3 Z Z Z (fun hx => ab hx Z Z Z (V O Z) Z Z ( ab hx Z Z Z (V O Z) Z Z ( bG O hx Z Z Z Z (n2 h1 h2) (af Z) Z Z Z Z Z Z Z (B0 := 91000) Z ( AN.nil)))) Z Z (aa (ar O Z Z Z Z Z) Z Z Z (js O Z (jf [92,28,26,25,8,7,6,5,4,3,2,1,0] Z (aw 1 Z Z Z (fun hx => ab hx Z Z Z (V O Z) Z Z ( AN.nil)) Z Z (aa (ar O Z Z Z Z Z) Z Z Z (jf [94,28,26,25,8,7,6,5,4,3,2,1,0] Z (jn (ae O Z Z (fun hc94 => ?_) (fun hc94 => ?_)))))))))))))))))))))))
 refine an (js O Z (jn (ag (j2 O Z Z (jf [2,28,26,25,7,6,5,4,3,1,0] Z (jr ?_))))))
 refine ⟨.inl Z, _, av, _, Z, ?_⟩
 rw [bQ, xV s hc76, hc94]
 simp [aN, bz hc76]
 refine ak (ag (j2 O Z Z (jf [2,28,26,25,7,6,5,4,3,1,0] Z (jr ?_))))
 refine ⟨.inl Z, _, av, _, Z, ?_⟩
 rw [bQ, xV s hc76, hc94]
 simp
 refine ag (j2 O Z Z (jf [95,28,26,25,8,7,6,5,4,3,2,1,0] Z (jn (ae O Z Z (fun hc95 => ?_) (fun hc95 => ?_)))))
 refine ag (j2 O Z Z (jf [98,28,26,25,8,7,6,5,4,3,2,1,0] Z (aw 1 Z Z Z (fun hx => ab hx Z Z Z (V O Z) Z Z ( AN.nil)) Z Z (aa (ar O Z Z Z Z Z) Z Z Z (js O Z (jf [101,28,26,25,8,7,6,5,4,3,2,1,0] Z (aw 3 Z Z Z (fun hx => ab hx Z Z Z (V O Z) Z Z ( ab hx Z Z Z (V O Z) Z Z ( bG O hx Z Z Z Z (n2 h1 h2) (af Z) Z Z Z Z Z Z Z (B0 := 105000) Z ( AN.nil)))) Z Z (aa (ar O Z Z Z Z Z) Z Z Z (js O Z (jf [106,28,26,25,8,7,6,5,4,3,2,1,0] Z (aw 3 Z Z Z (fun hx => ab hx Z Z Z (V O Z) Z Z ( ab hx Z Z Z (V O Z) Z Z ( bG O hx Z Z Z Z (n2 h1 h2) (af Z) Z Z Z Z Z Z Z (B0 := 110000) Z ( AN.nil)))) Z Z (aa (ar O Z Z Z Z Z) Z Z Z (js O Z (jf [111,28,26,25,8,7,6,5,4,3,2,1,0] Z (aw 1 Z Z Z (fun hx => ab hx Z Z Z (V O Z) Z Z ( AN.nil)) Z Z (aa (ar O Z Z Z Z Z) Z Z Z (jf [113,28,26,25,8,7,6,5,4,3,2,1,0] Z (jn (ae O Z Z (fun hc113 => ?_) (fun hc113 => ?_))))))))))))))))))))
 refine an (js O Z (jn (ag (j2 O Z Z (jf [2,28,26,25,7,6,5,4,3,1,0] Z (jr ?_))))))
 refine ⟨.inl Z, _, av, _, Z, ?_⟩
 rw [bQ, xU s hc95, hc113]
 simp [aN, bz hc95]
 refine ak (ag (j2 O Z Z (jf [2,28,26,25,7,6,5,4,3,1,0] Z (jr ?_))))
 refine ⟨.inl Z, _, av, _, Z, ?_⟩
 rw [bQ, xU s hc95, hc113]
 simp
 refine ag (j2 O Z Z (jf [114,28,26,25,8,7,6,5,4,3,2,1,0] Z (jn (ae O Z Z (fun hc114 => ?_) (fun hc114 => ?_)))))
 refine ag (j2 O Z Z (jf [117,28,26,25,8,7,6,5,4,3,2,1,0] Z (aw 3 Z Z Z (fun hx => ab hx Z Z Z (V O Z) Z Z ( ab hx Z Z Z (V O Z) Z Z ( bG O hx Z Z Z Z (Au h1 h2) (af Z) Z Z Z Z Z Z Z (B0 := 121000) Z ( AN.nil)))) Z Z (aa (ar O Z Z Z Z Z) Z Z Z (js O Z (jf [122,28,26,25,8,7,6,5,4,3,2,1,0] Z (aw 1 Z Z Z (fun hx => ab hx Z Z Z (V O Z) Z Z ( AN.nil)) Z Z (aa (ar O Z Z Z Z Z) Z Z Z (js O Z (jf [125,28,26,25,8,7,6,5,4,3,2,1,0] Z (aw 1 Z Z Z (fun hx => ab hx Z Z Z (V O Z) Z Z ( AN.nil)) Z Z (aa (ar O Z Z Z Z Z) Z Z Z (js O Z (jf [128,28,26,25,8,7,6,5,4,3,2,1,0] Z (aw 1 Z Z Z (fun hx => ab hx Z Z Z (V O Z) Z Z ( AN.nil)) Z Z (aa (ar O Z Z Z Z Z) Z Z Z (jf [130,28,26,25,8,7,6,5,4,3,2,1,0] Z (jn (ae O Z Z (fun hc130 => ?_) (fun hc130 => ?_))))))))))))))))))))
 refine an (js O Z (jn (ag (j2 O Z Z (jf [2,28,26,25,7,6,5,4,3,1,0] Z (jr ?_))))))
 refine ⟨.inl Z, _, av, _, Z, ?_⟩
 rw [bQ, xT s hc114, hc130]
 simp [aN, bz hc114]
 refine ak (ag (j2 O Z Z (jf [2,28,26,25,7,6,5,4,3,1,0] Z (jr ?_))))
 refine ⟨.inl Z, _, av, _, Z, ?_⟩
 rw [bQ, xT s hc114, hc130]
 simp
 refine ag (j2 O Z Z (jf [131,28,26,25,8,7,6,5,4,3,2,1,0] Z (jn (ae O Z Z (fun hc131 => ?_) (fun hc131 => ?_)))))
 refine ag (j2 O Z Z (jf [134,28,26,25,8,7,6,5,4,3,2,1,0] Z (aw 1 Z Z Z (fun hx => ab hx Z Z Z (V O Z) Z Z ( AN.nil)) Z Z (aa (ar O Z Z Z Z Z) Z Z Z (js O Z (jf [137,28,26,25,8,7,6,5,4,3,2,1,0] Z (aw 3 Z Z Z (fun hx => ab hx Z Z Z (V O Z) Z Z ( ab hx Z Z Z (V O Z) Z Z ( bG O hx Z Z Z Z (n2 h1 h2) (af Z) Z Z Z Z Z Z Z (B0 := 141000) Z ( AN.nil)))) Z Z (aa (ar O Z Z Z Z Z) Z Z Z (js O Z (jf [142,28,26,25,8,7,6,5,4,3,2,1,0] Z (aw 1 Z Z Z (fun hx => ab hx Z Z Z (V O Z) Z Z ( AN.nil)) Z Z (aa (ar O Z Z Z Z Z) Z Z Z (js O Z (jf [145,28,26,25,8,7,6,5,4,3,2,1,0] Z (aw 1 Z Z Z (fun hx => ab hx Z Z Z (V O Z) Z Z ( AN.nil)) Z Z (aa (ar O Z Z Z Z Z) Z Z Z (jf [147,28,26,25,8,7,6,5,4,3,2,1,0] Z (jn (ae O Z Z (fun hc147 => ?_) (fun hc147 => ?_))))))))))))))))))))
 refine an (js O Z (jn (ag (j2 O Z Z (jf [2,28,26,25,7,6,5,4,3,1,0] Z (jr ?_))))))
 refine ⟨.inl Z, _, av, _, Z, ?_⟩
 rw [bQ, xS s hc131, hc147]
 simp [aN, bz hc131]
 refine ak (ag (j2 O Z Z (jf [2,28,26,25,7,6,5,4,3,1,0] Z (jr ?_))))
 refine ⟨.inl Z, _, av, _, Z, ?_⟩
 rw [bQ, xS s hc131, hc147]
 simp
 refine ag (j2 O Z Z (jf [148,28,26,25,8,7,6,5,4,3,2,1,0] Z (jn (ae O Z Z (fun hc148 => ?_) (fun hc148 => ?_)))))
 refine ag (j2 O Z Z (jf [151,28,26,25,8,7,6,5,4,3,2,1,0] Z (aw 1 Z Z Z (fun hx => ab hx Z Z Z (V O Z) Z Z ( AN.nil)) Z Z (aa (ar O Z Z Z Z Z) Z Z Z (js O Z (jf [154,28,26,25,8,7,6,5,4,3,2,1,0] Z (aw 3 Z Z Z (fun hx => ab hx Z Z Z (V O Z) Z Z ( ab hx Z Z Z (V O Z) Z Z ( bG O hx Z Z Z Z (n2 h1 h2) (af Z) Z Z Z Z Z Z Z (B0 := 158000) Z ( AN.nil)))) Z Z (aa (ar O Z Z Z Z Z) Z Z Z (js O Z (jf [159,28,26,25,8,7,6,5,4,3,2,1,0] Z (aw 1 Z Z Z (fun hx => ab hx Z Z Z (V O Z) Z Z ( AN.nil)) Z Z (aa (ar O Z Z Z Z Z) Z Z Z (js O Z (jf [162,28,26,25,8,7,6,5,4,3,2,1,0] Z (aw 1 Z Z Z (fun hx => ab hx Z Z Z (V O Z) Z Z ( AN.nil)) Z Z (aa (ar O Z Z Z Z Z) Z Z Z (jf [164,28,26,25,8,7,6,5,4,3,2,1,0] Z (jn (ae O Z Z (fun hc164 => ?_) (fun hc164 => ?_))))))))))))))))))))
 refine an (js O Z (jn (ag (j2 O Z Z (jf [2,28,26,25,7,6,5,4,3,1,0] Z (jr ?_))))))
 refine ⟨.inl Z, _, av, _, Z, ?_⟩
 rw [bQ, xR s hc148, hc164]
 simp [aN, bz hc148]
 refine ak (ag (j2 O Z Z (jf [2,28,26,25,7,6,5,4,3,1,0] Z (jr ?_))))
 refine ⟨.inl Z, _, av, _, Z, ?_⟩
 rw [bQ, xR s hc148, hc164]
 simp
 refine ag (j2 O Z Z (jf [165,28,26,25,8,7,6,5,4,3,2,1,0] Z (jn (ae O Z Z (fun hc165 => ?_) (fun hc165 => ?_)))))
 refine ag (j2 O Z Z (jf [168,28,26,25,8,7,6,5,4,3,2,1,0] Z (aw 1 Z Z Z (fun hx => ab hx Z Z Z (V O Z) Z Z ( AN.nil)) Z Z (aa (ar O Z Z Z Z Z) Z Z Z (js O Z (jf [171,28,26,25,8,7,6,5,4,3,2,1,0] Z (aw 3 Z Z Z (fun hx => ab hx Z Z Z (V O Z) Z Z ( ab hx Z Z Z (V O Z) Z Z ( bG O hx Z Z Z Z (n2 h1 h2) (af Z) Z Z Z Z Z Z Z (B0 := 175000) Z ( AN.nil)))) Z Z (aa (ar O Z Z Z Z Z) Z Z Z (js O Z (jf [176,28,26,25,8,7,6,5,4,3,2,1,0] Z (aw 1 Z Z Z (fun hx => ab hx Z Z Z (V O Z) Z Z ( AN.nil)) Z Z (aa (ar O Z Z Z Z Z) Z Z Z (js O Z (jf [179,28,26,25,8,7,6,5,4,3,2,1,0] Z (aw 3 Z Z Z (fun hx => ab hx Z Z Z (V O Z) Z Z ( ab hx Z Z Z (V O Z) Z Z ( bG O hx Z Z Z Z (vZ h1 h2) (af Z) Z Z Z Z Z Z Z (B0 := 183000) Z ( AN.nil)))) Z Z (aa (ar O Z Z Z Z Z) Z Z Z (jf [183,28,26,25,8,7,6,5,4,3,2,1,0] Z (jn (ae O Z Z (fun hc183 => ?_) (fun hc183 => ?_))))))))))))))))))))
 refine an (js O Z (jn (ag (j2 O Z Z (jf [2,28,26,25,7,6,5,4,3,1,0] Z (jr ?_))))))
 refine ⟨.inl Z, _, av, _, Z, ?_⟩
 rw [bQ, xQ s hc165, hc183]
 simp [aN, bz hc165]
 refine ak (ag (j2 O Z Z (jf [2,28,26,25,7,6,5,4,3,1,0] Z (jr ?_))))
 refine ⟨.inl Z, _, av, _, Z, ?_⟩
 rw [bQ, xQ s hc165, hc183]
 simp
 refine ak (ag (j2 O Z Z (jf [2,28,26,25,7,6,5,4,3,1,0] Z (jr ?_))))
 refine ⟨.inl Z, _, av, _, Z, ?_⟩
 have hn : (decide (0 ≤ s.kind) && decide (s.kind ≤ 8)) = false := by
  have := cp hc27
  have := cp hc42
  have := cp hc57
  have := cp hc76
  have := cp hc95
  have := cp hc114
  have := cp hc131
  have := cp hc148
  have := cp hc165
  rw [← Bool.not_eq_true]; intro h; simp only [bM, decide_eq_true_eq] at h; omega
 rw [bQ, aW, show m6 s = true by unfold m6; rw [hn]; rfl]; rfl
inductive Tr where
  | node (s : Sm) (at_ : Int) (kids : List Tr)
mutual
def Tr.d : Tr → D
  | .node s a ks => .ptr [.int .i64 s.kind, .int .i64 s.var, .int .i64 s.event, .int .i64 s.sum.c, cG s.sum.xs, .int .i64 s.index.c, cG s.index.xs, e6 s.facts, .int .i64 a, .slc 1 (Trs.d ks)] 0
def Trs.d : List Tr → List (List D)
  | [] => []
  | t :: r => [t.d] :: Trs.d r
end
theorem eZ : ∀ {ts : List Tr}, (Trs.d ts).length = ts.length
 | [] => rfl
 | t :: r => by simp [Trs.d, eZ]
theorem l8 : ∀ {ts : List Tr} {t : Tr}, Trs.d (ts ++ [t]) = Trs.d ts ++ [[t.d]]
 | [], t => rfl
 | u :: r, t => by simp [Trs.d, l8]
def ci (f : Nat → Option (Tr × Nat)) : Nat → Nat → Option (List Tr × Nat)
  | 0, k => some ([], k)
  | q + 1, k => match f k with
    | none => none
    | some (t, k') => (ci f q k').map fun r => (t :: r.1, r.2)
def cb : Nat → List Sm → Nat → Option (Tr × Nat)
  | 0, _, _ => none
  | n + 1, body, k => if body.length ≤ k then none else if bQ (body.getD k default) < 0 then none else
      (ci (cb n body) (bQ (body.getD k default)).toNat (k + 1)).map fun r => (.node (body.getD k default) k r.1, r.2)
theorem cM {f : Nat → Option (Tr × Nat)} {q k k' : Nat} {t : Tr} (h : f k = some (t, k')) : ci f (q + 1) k = (ci f q k').map fun r => (t :: r.1, r.2) := by rw [ci, h]
theorem dh {f : Nat → Option (Tr × Nat)} {q k : Nat} (h : f k = none) : ci f (q + 1) k = none := by rw [ci, h]
theorem oE {f : Nat → Option (Tr × Nat)} {N : Nat} (hf : ∀ k t k', f k = some (t, k') → k < k' ∧ k' ≤ N) : ∀ {q k ts k'}, ci f q k = some (ts, k') → k ≤ N → k ≤ k' ∧ k' ≤ N
 | 0, k, ts, k', h, hk => by simp [ci] at h; omega
 | q + 1, k, ts, k', h, hk => by
  unfold ci at h
  cases hx : f k with
  | none => rw [hx] at h; cases h
  | some x =>
   obtain ⟨t, k1⟩ := x
   rw [hx] at h
   simp only [Option.map_eq_some_iff] at h
   obtain ⟨⟨ts1, k2⟩, h1, h2⟩ := h
   simp only [Prod.mk.injEq] at h2
   have h3 := hf k t k1 hx
   have h4 := oE hf h1 h3.2
   omega
theorem fw : ∀ {n body k t k'}, cb n body k = some (t, k') → k < k' ∧ k' ≤ body.length
 | 0, _, _, _, _, h => by cases h
 | n + 1, body, k, t, k', h => by
  unfold cb at h
  split at h
  cases h
  split at h
  cases h
  simp only [Option.map_eq_some_iff] at h
  obtain ⟨⟨ts1, k2⟩, h1, h2⟩ := h
  simp only [Prod.mk.injEq] at h2
  have := oE (N := body.length) (fun k t k' h => fw h) h1 (by omega)
  omega
abbrev tP (r : Option (Tr × Nat)) : D := match r with | some (t, _) => t.d | none => .nilp
abbrev tN (r : Option (Tr × Nat)) : Int := match r with | some (_, k) => k | none => 0
abbrev tB (r : Option (Tr × Nat)) : Bool := match r with | some _ => true | none => false
abbrev vQ (r : Option (Tr × Nat)) : A := .tup [.c (.d (tP r)), eI (tN r), eB (tB r)]
theorem qO {r : Option (Tr × Nat)} (h : tB r = true) : ∃ t k, r = some (t, k) := by
 cases r with
 | none => cases h
 | some x => exact ⟨x.1, x.2, Z⟩
theorem te {r : Option (Tr × Nat)} (h : tB r = false) : r = none := by
 cases r with
 | none => rfl
 | some x => cases h
theorem tO (s : Sm) : bQ s ≤ 2 := by
 unfold bQ; split
 exact (b0 _).2
 decide
theorem yY {n k : Nat} (hk : k ≤ body.length) (hn : body.length < n + 1 + k) (ih : ∀ k', k' ≤ body.length → body.length < n + k' → MQ h1 h2 87 [.c (.d (ie body)), eI k'] [] (Plain (vQ (cb n body k')))) : MQ h1 h2 87 [.c (.d (ie body)), eI k] [] (Plain (vQ (cb (n + 1) body k))) := by
 refine jB 58 h1 h2 Tryz.func87 Z Z Z fun O hF => ?_
 have hl : body.length ≤ L := by simpa [As.fact, A.fact, M.fact, D.fact, Ds.fact] using hF.1.1
 refine ag (j3 O Z Z Z (jn (ah (ag (j2 O Z Z (eK O Z (js O Z (jf [15,6,5,4,0,1] Z (jn (ae O Z Z (fun hc15 => ?_) (fun hc15 => ?_)))))))))))
 try simp only [cf] at hc15
 refine ag (j3 O Z Z Z (jr ?_))
 refine ⟨.inl Z, _, am [] Z Z (e' := [(4, .c (.d .nilp)), (5, eI 0), (6, eB false)]) ⟨Z, Z, Z, trivial⟩ Z, _, Z, ?_, Z⟩
 rw [show cb (n + 1) body k = none from if_pos (by omega)]
 try simp only [cf] at hc15
 refine ak (ag (j2 O Z Z (pq O Z Z (js O Z (jf [19,6,5,4,0,1] Z (aB O Z Z Z Z (Av h1 h2) (af Z) Z Z Z Z Z (B0 := 21000) Z (js O Z (jf [7,6,5,4,0,1] Z (jn (ah (ag (j2 O Z Z (jn (ae O Z Z (fun hc22 => ?_) (fun hc22 => ?_)))))))))))))))
 try simp only [cf] at hc22
 refine ag (j3 O Z Z Z (jr ?_))
 refine ⟨.inl Z, _, am [] Z Z (e' := [(4, .c (.d .nilp)), (5, eI 0), (6, eB false)]) ⟨Z, Z, Z, trivial⟩ Z, _, Z, ?_, Z⟩
 rw [show cb (n + 1) body k = none by unfold cb; rw [if_neg (by omega)]; exact if_pos hc22]
 try simp only [cf] at hc22
 refine ak (ag (j2 O Z Z (pq O Z Z (j3 O Z Z Z (jf [28,21,7,6,5,4,0,1] Z (jx O Z (ap ?_)))))))
 refine js O Z (jf [8,21,7,6,5,4,0,1] Z (bn (js O Z (ji O Z (js O Z (jf [1,8,21,7,6,5,4,0] Z (jn (ah (aq (aH (X := Nat × Nat × List Tr) (fun x => ⟨[(0, .c (.d (ie body))), (1, eI x.2.1), (7, eI x.1), (8, .c (.pt 29 0 0))], [(29, .box [.d (.int .i64 (body.getD k default).kind), .d (.int .i64 (body.getD k default).var), .d (.int .i64 (body.getD k default).event), .d (.int .i64 (body.getD k default).sum.c), .d (cG (body.getD k default).sum.xs), .d (.int .i64 (body.getD k default).index.c), .d (cG (body.getD k default).index.xs), .d (e6 (body.getD k default).facts), .d (.int .i64 k), .rs 700 0 x.2.2.length]), (700, .row false 1 (Trs.d x.2.2))]⟩) (fun x => x.2.1 ≤ body.length ∧ k < x.2.1 ∧ ci (cb n body) (bQ (body.getD k default)).toNat (k + 1) = (ci (cb n body) x.1 x.2.1).map (fun r => (x.2.2 ++ r.1, r.2)) ∧ x.2.2.length + x.1 ≤ 2) (fun x => x.1) ((bQ (body.getD k default)).toNat, k + 1, []) ((cK 29 700 1 false 9 Z Z Z).trans (Ent.to ⟨Z, Z, congrArg (fun z => some (eI z)) (Int.toNat_of_nonneg hc22).symm, Z, trivial⟩ Z)) ?_ (fun x hi => ?_)))))))))))
 exact ⟨(show k + 1 ≤ body.length by omega), Nat.lt_succ_self k, by simp, by have := tO (body.getD k default); show 0 + (bQ (body.getD k default)).toNat ≤ 2; omega⟩
 refine ah (ag (j2 O Z Z (jn (ae O Z Z (fun hc33 => ?_) (fun hc33 => ?_)))))
 try simp only [cf] at hc33
 refine ak (ah (aq (ag (j2 O Z Z (ay O Z Z Z Z (ih x.2.1 hi.1 (by omega)) (af Z) Z Z Z Z (B0 := 40000) Z Z (j4 O Z Z Z Z (j3 O Z Z Z (jf [11,10,9,33,32,0,1,7,8] Z (jn (ah (ag (j2 O Z Z (jf [44,10,9,33,32,0,1,7,8] Z (jn (ae O Z Z (fun hc44 => ?_) (fun hc44 => ?_))))))))))))))))
 try simp only [cf] at hc44
 refine ag (j3 O Z Z Z (jr ?_))
 refine ⟨.inl Z, _, am [] Z Z (e' := [(4, .c (.d .nilp)), (5, eI 0), (6, eB false)]) ⟨Z, Z, Z, trivial⟩ Z, _, Z, ?_, Z⟩
 have e0 := te hc44
 rw [Int.toNat_natCast] at hc22
 rw [show cb (n + 1) body k = none by
  unfold cb
  rw [if_neg (by omega), if_neg (by omega), hi.2.2.1]
  obtain ⟨q, hq⟩ : ∃ q, x.1 = q + 1 := ⟨x.1 - 1, by omega⟩
  rw [hq, dh e0]; rfl]
 try simp only [cf] at hc44
 refine ak (ag ?_)
 obtain ⟨t1, k1, hr⟩ := qO hc44
 obtain ⟨s1, a1, ks1⟩ := t1
 rw [hr]
 refine j4 O Z Z Z Z (j2 O Z Z (jf [50,49,45,44,10,33,32,0,1,7,8] Z (AOps.heap (bB O Z Z Z) Z (ap ?_))))
 refine jf [51,49,45,44,10,33,32,0,1,7,8] Z (AOps.heap (bk (own := false) O Z Z Z Z Z Z Z Z Z Z Z Z Z Z Z Z (.row Z eZ.symm) (.whole Z Z (.inr ⟨Z, Z⟩)) (by simp) Z (by rw [eZ]; show x.2.2.length + 1 ≤ L; omega) (by rw [eZ]; show (x.2.2.length + 1) * 8 ≤ _; omega) Z (by rw [de, eZ])) Z (ap ?_))
 refine j2 O Z Z (jf [54,52,44,10,33,32,0,1,7,8] Z (jo O Z (ap ?_)))
 refine jf [44,10,33,32,0,1,7,8] Z (jn (an (j2 O Z Z (jf [1,44,33,32,0,7,8] Z (jn (an (js O Z (ji O Z (js O Z (jf [7,1,44,33,32,0,8] Z (jn ?_)))))))))))
 refine ⟨(x.1 - 1, k1, x.2.2 ++ [.node s1 a1 ks1]), ((am [29,52] (e' := [(0, _), (1, _), (7, _), (8, _)]) Z Z ⟨Z, Z, Z, Z, trivial⟩ Z).trans (Ent.sub 52 700 Z Z Z)).trans (Ent.to ⟨Z, Z, ?_, Z, trivial⟩ ?_), ⟨(fw hr).2, by have := (fw hr).1; show k < k1; omega, ?_, ?_⟩, ?_⟩
 exact congrArg (fun z => some (eI z)) (by show (x.1 : Int) - 1 = (x.1 - 1 : Nat); omega)
 rw [l8, de]; rfl
 rw [hi.2.2.1]
 obtain ⟨q, hq⟩ : ∃ q, x.1 = q + 1 := ⟨x.1 - 1, by omega⟩
 rw [hq, cM hr]
 simp [Option.map_map, Function.comp_def]
 show (x.2.2 ++ [_]).length + (x.1 - 1) ≤ 2; simp; omega
 show x.1 - 1 < x.1; omega
 try simp only [cf] at hc33
 refine bH (ag (j4 O Z Z Z Z (js O Z (jf [6,5,4,33,32,0,1,7,8] Z (jr ?_)))))
 refine ⟨.inl Z, _, ((Ent.to (e' := [(4, _), (5, _), (6, _)]) ⟨Z, Z, Z, trivial⟩ Z).trans (Ent.freeze (e' := [(4, _), (5, _), (6, _)]) 700 Z (.cons Z (.keep Z) (.cons Z (.keep Z) (.cons Z (.keep Z) .nil))) (.cons Z (.box (.cons (.keep Z) (.cons (.keep Z) (.cons (.keep Z) (.cons (.keep Z) (.cons (.keep Z) (.cons (.keep Z) (.cons (.keep Z) (.cons (.keep Z) (.cons (.keep Z) (.cons (.row Z eZ.symm) .nil))))))))))) (.skip .nil)))).trans (Ent.freeze (e' := [(4, _), (5, _), (6, _)]) 29 Z (.cons Z (.c (.box (cs := [.int .i64 (body.getD k default).kind, .int .i64 (body.getD k default).var, .int .i64 (body.getD k default).event, .int .i64 (body.getD k default).sum.c, cG (body.getD k default).sum.xs, .int .i64 (body.getD k default).index.c, cG (body.getD k default).index.xs, e6 (body.getD k default).facts, .int .i64 k, .slc 1 (Trs.d x.2.2)]) Z (aC Z))) (.cons Z (.keep Z) (.cons Z (.keep Z) .nil))) (.skip .nil)), _, Z, ?_, Z⟩
 have hx : x.1 = 0 := by omega
 rw [Int.toNat_natCast] at hc22
 rw [show cb (n + 1) body k = some (.node (body.getD k default) k x.2.2, x.2.1) by
  unfold cb
  rw [if_neg (by omega), if_neg (by omega), hi.2.2.1, hx]; simp [ci]]
 rfl
theorem yf {L : Nat} (h1 : 4096 ≤ L) (h2 : L ≤ 1073741824) {body : List Sm} : ∀ {n k : Nat}, k ≤ body.length → body.length < n + k → MC Tryz.prog L 87 [.c (.d (ie body)), eI k] [] (Plain (vQ (cb n body k)))
 | 0, k, hk, hn => by omega
 | n + 1, k, hk, hn => yY h1 h2 hk hn (fun k' hk' hn' => yf h1 h2 hk' hn')
def vJ (body : List Sm) : Option (Tr × Nat) := cb (body.length + 1) body 0
def t8 (body : List Sm) : D := if (30 : Int) < body.length then .nilp else tP (vJ body)
def po (body : List Sm) : Bool := if (30 : Int) < body.length then false else (tB (vJ body) && decide (tN (vJ body) = body.length))
def eN (p : Pm) : Bool := po p.body && (bW p.pre 6 && bW p.post 6)

theorem v9 : MQ h1 h2 56 [.c (.d (ie body))] [] (Plain (.tup [.c (.d (t8 body)), eB (po body)])) := by
 refine jB 24 h1 h2 Tryz.func56 Z Z Z fun O hF => ?_
 have hl : body.length ≤ L := by simpa [As.fact, A.fact, M.fact, D.fact, Ds.fact] using hF.1.1
 refine ag (j2 O Z Z (jn (ah (ag (js O Z (eK O Z (js O Z (jf [9,3,2,0] Z (jn (ae O Z Z (fun hc9 => ?_) (fun hc9 => ?_)))))))))))
 try simp only [cf] at hc9
 refine ag (j2 O Z Z (jr ?_))
 refine ⟨.inl Z, _, av, _, Z, ?_, Z⟩
 rw [t8, po, if_pos hc9, if_pos hc9]
 try simp only [cf] at hc9
 refine ak (ag (js O Z (bq [(11, _), (3, _), (2, _), (0, _)] [] ⟨Z, Z, Z, Z, trivial⟩ Z (ay O Z Z Z Z (yf (n := body.length + 1) (k := 0) h1 h2 (dF _) (by omega)) (af Z) Z Z Z Z (B0 := 13000) Z Z (j4 O Z Z Z Z (j3 O Z Z Z (jf [6,5,4,3,2,0] Z (bn (j3 O Z Z Z (bq [(18, _), (16, _), (5, _), (3, _), (2, _), (0, _)] [] ⟨Z, Z, Z, Z, Z, Z, trivial⟩ Z (aw 4 Z Z Z (fun hx => ab hx Z Z Z (V O Z) Z Z ( ab hx Z Z Z (V O Z) Z Z ( ab hx Z Z Z (b9 O Z Z Z Z Z Z Z Z) Z Z ( ab hx Z Z Z (V O Z) Z Z ( AN.nil))))) Z Z (aa (ar O Z Z Z Z Z) Z Z Z (j2 O Z Z (jf [3,2,0] Z (jr ?_)))))))))))))))
 refine ⟨.inl Z, _, av, _, Z, ?_, Z⟩
 rw [t8, po, if_neg (by omega), if_neg (by omega), ← Bool.cond_false_right]; rfl
theorem AA : MQ h1 h2 84 [.c (.d (ie body))] [] (Plain (eB (po body))) := by
 refine aY ?_ Z
 refine jB 11 h1 h2 Tryz.func84 Z Z Z fun O hF => ?_
 refine ag (js O Z (bn (js O Z (bq [(6, _), (2, _)] [] ⟨Z, Z, trivial⟩ Z (ay O Z Z Z Z (v9 h1 h2) (af Z) Z Z Z Z (B0 := 8000) Z Z (j4 O Z Z Z Z (js O Z (jf [4,2] Z (bn (j2 O Z Z (jf [2] Z (jr ?_))))))))))))
 refine ⟨.inl Z, _, av, _, Z, ?_⟩
 first | rfl | skip
theorem yi : MQ h1 h2 53 [lc p] [] (Plain (eB (eN p))) := by
 refine aY ?_ Z
 refine jB 16 h1 h2 Tryz.func53 Z Z Z fun O hF => ?_
 refine ag (jx O Z (js O Z (bn (j2 O Z Z (jf [4,2,1,0] Z (aB O Z Z Z Z (AA h1 h2) (af Z) Z Z Z Z Z (B0 := 6000) Z (js O Z (jf [6,2,1,0] Z (aw 3 Z Z Z (fun hx => ab hx Z Z Z (V O Z) Z Z ( ab hx Z Z Z (V O Z) Z Z ( bG O hx Z Z Z Z (vZ h1 h2) (af Z) Z Z Z Z Z Z Z (B0 := 10000) Z ( AN.nil)))) Z Z (aa (ar O Z Z Z Z Z) Z Z Z (js O Z (jf [11,2,1,0] Z (aw 3 Z Z Z (fun hx => ab hx Z Z Z (V O Z) Z Z ( ab hx Z Z Z (V O Z) Z Z ( bG O hx Z Z Z Z (vZ h1 h2) (af Z) Z Z Z Z Z Z Z (B0 := 15000) Z ( AN.nil)))) Z Z (aa (ar O Z Z Z Z Z) Z Z Z (js O Z (jf [2,0] Z (jr ?_)))))))))))))))))
 refine ⟨.inl Z, _, av, _, Z, ?_⟩
 rw [Bool.cond_false_right, Bool.cond_false_right, Bool.and_assoc]; rfl
variable {s : Sx}
theorem AH : MQ h1 h2 54 [vM s] [] (Plain (eB (sa s))) := by
 refine aY ?_ Z
 refine jB 23 h1 h2 Tryz.func54 Z Z Z fun O hF => ?_
 refine ag (jx O Z (js O Z (bn (j2 O Z Z (eK O Z (j2 O Z Z (jf [7,2,1,0] Z (aw 4 Z Z Z (fun hx => ab hx Z Z Z (V O Z) Z Z ( ab hx Z Z Z (V O Z) Z Z ( ab hx Z Z Z (b9 O Z Z Z Z Z Z Z Z) Z Z ( ab hx Z Z Z (V O Z) Z Z ( AN.nil))))) Z Z (aa (ar O Z Z Z Z Z) Z Z Z (js O Z (jf [13,2,1,0] Z (aw 3 Z Z Z (fun hx => ab hx Z Z Z (V O Z) Z Z ( ab hx Z Z Z (V O Z) Z Z ( bG O hx Z Z Z Z (vV h1 h2) (af Z) Z Z Z Z Z Z Z (B0 := 17000) Z ( AN.nil)))) Z Z (aa (ar O Z Z Z Z Z) Z Z Z (js O Z (jf [18,2,1,0] Z (aw 3 Z Z Z (fun hx => ab hx Z Z Z (V O Z) Z Z ( ab hx Z Z Z (V O Z) Z Z ( bG O hx Z Z Z Z (vV h1 h2) (af Z) Z Z Z Z Z Z Z (B0 := 22000) Z ( AN.nil)))) Z Z (aa (ar O Z Z Z Z Z) Z Z Z (js O Z (jf [2,0] Z (jr ?_))))))))))))))))))))
 refine ⟨.inl Z, _, av, _, Z, ?_⟩
 exact congrArg eB (show (bif bif bif decide ((s.vars.length : Int) = 4) then decide ((s.cells.length : Int) = 8) else false then s.vars.all jk else false then s.cells.all jk else false) = sa s by unfold sa ck; cases s.vars.all jk <;> cases s.cells.all jk <;> simp)
theorem AF {v c : List Int} : MQ h1 h2 57 [.agg [.d (cG v), .d (cG c)]] [] (Rows (.agg [.rs 0 0 v.length, .rs 1 0 c.length]) [aA v, aA c]) := by
 refine db (jB 10 h1 h2 Tryz.func57 Z Z Z fun O hF => ?_)
 refine ag (jx O Z (jl O Z (jn (ah (fc O [_,_,_,_,_,_,_,_] [pn [] 0 0, pn [0] 0 0, pe [0,1] 0, pn [] 0 1, pn [3] 0 1, pe (rg 0 5) 1, pn (rg 0 6) 2 2, pe (rg 0 7) 2] [2,5,7] [_,_,_,_] (kc O Z (kc O Z (ai (cR O (B0 := 6000) Z Z Z Z (sq h1 h2) (af Z) Z Z Z Z Z) (ai (kc O Z (V O Z)) (ai (kc O Z (V O Z)) (ai (cR O (B0 := 9000) Z Z Z Z (sq h1 h2) (af Z) Z Z Z Z Z) (kc O Z (ai (eS O Z Z Z) trivial)))))))) ?_)))))
 refine ff ?_
 refine ⟨.inl Z, _, av, _, Z, [6000,9000], by decide, Z, Z, Z⟩
structure RS where
  vars : List Int
  cells : List Int
  events : List Int
  fuel : Int
  steps : Int
  out : Int
abbrev f5 (e : Nat) (r : RS) : B := .box [.rs 1 0 4, .rs 2 0 8, .rs e 0 r.events.length, .d (.int .i64 r.fuel), .d (.int .i64 r.steps), .d (.int .i64 r.out)]
abbrev rH (e : Nat) (r : RS) : List (Nat × B) := [(0, f5 e r), (1, aA r.vars), (2, aA r.cells), (e, aA r.events)]
def aL (r : RS) : Bool × RS := if r.steps = r.fuel then (false, { r with out := 1 }) else (true, { r with steps := r.steps + 1 })

theorem n3 {r : RS} (hs : 0 ≤ r.steps) (hs2 : r.steps ≤ 1073741824) : MQ h1 h2 89 [.c (.pt 0 0 0)] (rH 3 r) (aS (eB (aL r).1) (rH 3 (aL r).2)) := by
 refine MC.shift 500 Z (jH 22 [500,501,502,503] h1 h2 Tryz.func89 Z Z Z Z fun O hF => ?_)
 refine bK ?_
 refine ag (js O Z (jn (ah (ah (fc O [_,_,_,_,_,_,_,_,_] [pn [] 0 0, pn [0] 0 0, pn [0,1] 0 0, pn [0,1,2] 0 0, pn [] 0 0, pn [4] 0 0, pn [4,5] 0 0, pn [4,5,6] 0 0, pn (rg 0 8) 0 0] [] [_] (kc O Z (kc O Z (kc O Z (kc O Z (kc O Z (kc O Z (kc O Z (kc O Z (kc O Z trivial))))))))) ?_)))))
 refine jw [11,2,0] Z (bK ?_)
 refine ae O Z Z (fun hc11 => ?_) (fun hc11 => ?_)
 try simp only [cf] at hc11
 refine ag (j3 O Z Z Z (jf [14,2,0] Z (jo O Z (ap ?_))))
 refine bn (js O Z (jr ?_))
 refine ⟨.inl Z, _, am [500,501,502,503] Z Z (e' := [(2, _)]) ⟨Z, trivial⟩ Z, _, Z, ?_, ?_⟩
 rw [aL, if_pos hc11]; rfl
 rw [aL, if_pos hc11]; rfl
 try simp only [cf] at hc11
 refine ak (ag (j4 O Z Z Z Z (ji O Z (j2 O Z Z (jf [21,19,2,0] Z (jo O Z (ap ?_)))))))
 refine jf [2,0] Z (bn (js O Z (jr ?_)))
 refine ⟨.inl Z, _, am [500,501,502,503] Z Z (e' := [(2, _)]) ⟨Z, trivial⟩ Z, _, Z, ?_, ?_⟩
 rw [aL, if_neg hc11]; rfl
 rw [aL, if_neg hc11]; rfl
theorem so {r : RS} : MQ h1 h2 91 [.c (.pt 0 0 0), eI x] (rH 3 r) (aS (eB false) (rH 3 { r with out := x })) := by
 refine MC.shift 500 Z (jH 9 [500,501,502,503] h1 h2 Tryz.func91 Z Z Z Z fun O hF => ?_)
 refine bK ?_
 refine ag (js O Z (bn (j4 O Z Z Z Z (jf [8,6,4] Z (jo O Z (ap ?_))))))
 refine jf [4] Z (bn (js O Z (jr ?_)))
 refine ⟨.inl Z, _, am [500,501,502,503] Z Z (e' := [(4, _)]) ⟨Z, trivial⟩ Z, _, Z, ?_, ?_⟩
 rfl
 rfl
def fj (s : Sm) (f : RS → Bool × RS) : Nat → RS → Bool × RS
  | 0, r => (false, { r with out := 1 })
  | m + 1, r => if r.steps = r.fuel then (false, { r with out := 1 }) else
    if aT s.sum r.vars < 0 then (true, { r with steps := r.steps + 1 }) else
      if (f { r with steps := r.steps + 1 }).1 = true then fj s f m (f { r with steps := r.steps + 1 }).2 else (false, (f { r with steps := r.steps + 1 }).2)
def leaf (s : Sm) (r : RS) : Bool × RS :=
  if s.kind = 2 then (if jk (aT s.sum r.vars) = true then (true, { r with vars := r.vars.set s.var.toNat (aT s.sum r.vars) }) else (false, { r with out := 4 }))
  else if s.kind = 3 then (if eL 0 7 (aT s.index r.vars) = true then (true, { r with vars := r.vars.set s.var.toNat (r.cells.getD (aT s.index r.vars).toNat default) }) else (false, { r with out := 2 }))
  else if s.kind = 4 then (if eL 0 7 (aT s.index r.vars) = true then (if jk (aT s.sum r.vars) = true then (true, { r with cells := r.cells.set (aT s.index r.vars).toNat (aT s.sum r.vars) }) else (false, { r with out := 4 })) else (false, { r with out := 2 }))
  else if s.kind = 5 then (true, { r with events := r.events ++ [s.event] })
  else if s.kind = 6 then (if aT s.sum r.vars < 0 then (false, { r with out := 3 }) else (true, r))
  else (true, r)
def aU : Tr → RS → Bool × RS
  | .node s a [x, y], r =>
    if s.kind = 1 then (if (aU x r).1 = true then aU y (aU x r).2 else (false, (aU x r).2)) else
      if (aL r).1 = true then (if 0 ≤ aT s.sum (aL r).2.vars then aU x (aL r).2 else aU y (aL r).2) else (false, (aL r).2)
  | .node s a [x], r => fj s (aU x) ((r.fuel - r.steps).toNat + 1) r
  | .node s a _, r => if (aL r).1 = true then leaf s (aL r).2 else (false, (aL r).2)
theorem bT {s : Sm} {a : Int} {r : RS} : aU (.node s a []) r = if (aL r).1 = true then leaf s (aL r).2 else (false, (aL r).2) := by rw [aU] <;> simp
theorem tq {s : Sm} {a : Int} {x : Tr} {r : RS} : aU (.node s a [x]) r = fj s (aU x) ((r.fuel - r.steps).toNat + 1) r := by rw [aU]
theorem dR {s : Sm} {a : Int} {x y : Tr} {r : RS} : aU (.node s a [x, y]) r = if s.kind = 1 then (if (aU x r).1 = true then aU y (aU x r).2 else (false, (aU x r).2)) else
      if (aL r).1 = true then (if 0 ≤ aT s.sum (aL r).2.vars then aU x (aL r).2 else aU y (aL r).2) else (false, (aL r).2) := by rw [aU]
structure RSok (r : RS) : Prop where
  vars : ck r.vars 4 = true
  cells : ck r.cells 8 = true
  lo : 0 ≤ r.steps
  hi : r.steps ≤ r.fuel
  fuel : r.fuel ≤ 2000
  events : (r.events.length : Int) ≤ r.steps
theorem RSok.nv {r : RS} (h : RSok r) : r.vars.length = 4 := by have := (dV h.vars).2; omega
theorem RSok.nc {r : RS} (h : RSok r) : r.cells.length = 8 := by have := (dV h.cells).2; omega
structure RSle (r r' : RS) : Prop where
  ok : RSok r'
  fuel : r'.fuel = r.fuel
  steps : r.steps ≤ r'.steps
theorem RSok.step {r : RS} (h : RSok r) : RSle r (aL r).2 := by
 unfold aL
 split
 exact ⟨⟨h.vars, h.cells, h.lo, h.hi, h.fuel, h.events⟩, Z, Int.le_refl _⟩
 rename_i hne
 have := h.hi; have := h.lo; have := h.events
 exact ⟨⟨h.vars, h.cells, by show 0 ≤ r.steps + 1; omega, by show r.steps + 1 ≤ r.fuel; omega, h.fuel, by show (r.events.length : Int) ≤ r.steps + 1; omega⟩, Z, by show r.steps ≤ r.steps + 1; omega⟩
theorem cn {s : Sm} (h : aW s = true) : s.sum.term = true ∧ s.index.term = true := by
 unfold aW m6 at h
 cases h1 : s.sum.term <;> cases h2 : s.index.term <;> simp [h1, h2] at h ⊢
theorem lF {s : Sm} (h : aW s = true) (hk : lr s = true) : 0 ≤ s.var ∧ s.var ≤ 3 := by
 unfold aW r3 at h
 rw [hk] at h
 cases h1 : (decide (0 ≤ s.var) && decide (s.var ≤ 3)) with
 | true => simpa using h1
 | false => rw [h1] at h; cases m6 s <;> cases rc s <;> simp at h
theorem nz {xs : List Int} {n : Int} (h : ck xs n = true) {i : Nat} {v : Int} (hv : jk v = true) : ck (xs.set i v) n = true := by
 have h1 := dV h
 unfold ck
 rw [List.length_set, bM, List.all_eq_true]
 refine ⟨fun x hx => ?_, by simpa using h1.2⟩
 rcases List.mem_or_eq_of_mem_set hx with h2 | h2
 exact List.all_eq_true.1 h1.1 x h2
 rw [h2]; exact hv
variable {vr ev a : Int} {su ix : Tm} {fa : List Tm}
theorem xg {r : RS} (hst : aW ⟨0, vr, ev, su, ix, fa⟩ = true) (hr : RSok r) : MQ h1 h2 58 [.c (.pt 0 0 0), .c (.d (Tr.d (.node ⟨0, vr, ev, su, ix, fa⟩ a [])))] (rH 3 r) (aS (eB (aU (.node ⟨0, vr, ev, su, ix, fa⟩ a []) r).1) (rH 4 (aU (.node ⟨0, vr, ev, su, ix, fa⟩ a []) r).2)) := by
 refine MC.shift 500 Z (jH 219 [500,501,502,503] h1 h2 Tryz.func58 Z Z Z Z fun O hF => ?_)
 refine bK ?_
 have hsf := cn hst
 refine ag (js O Z (bn (j4 O Z Z Z Z (j2 O Z Z (jf [5,4,0,1] Z (jn (ah (ag (j4 O Z Z Z Z (j3 O Z Z Z (jf [19,5,4,0,1] Z (aZ Z (js O Z (aZ Z (js O Z (jf [21,19,5,4,0,1] Z (aZ Z (js O Z (jf [22,19,5,4,0,1] Z (aZ Z (js O Z (jf [23,19,5,4,0,1] Z (aZ Z (js O Z (jf [24,19,5,4,0,1] Z (aZ Z (js O Z (aa (br O Z Z Z Z Z) Z Z Z (js O Z ?_)))))))))))))))))))))))))))))
 refine jf [27,5,4,0,1] Z (aZ Z (js O Z (aZ Z (aj O [500,501,502,503] (bin := [f5 3 r, aA (r).vars, aA (r).cells, aA (r).events]) Z Z Z Z (n3 (r := r) h1 h2 hr.lo (Int.le_trans hr.hi (Int.le_trans hr.fuel (by decide)))) Z Z Z Z Z Z (B0 := 30000) Z Z (ap ?_)))))
 refine jf [29,27,5,4,0,1] Z (aZ Z (js O Z (aa (br O Z Z Z Z Z) Z Z Z (jf [31,5,4,0,1] Z (jn (ae O Z Z (fun hc31 => ?_) (fun hc31 => ?_)))))))
 refine ag (js O Z (jr ?_))
 have hs0 : (aL r).1 = false := by cases h : (aL r).1 with | false => rfl | true => rw [h] at hc31; cases hc31
 have hrun : aU (.node ⟨0, vr, ev, su, ix, fa⟩ a []) r = (false, (aL r).2) := by rw [bT, if_neg (by rw [hs0]; decide)]
 refine ⟨.inl Z, _, (am [500,501,502,503] Z Z (e' := [(4, _)]) ⟨Z, trivial⟩ Z).trans (ac 503 504 Z Z), _, Z, ?_, ?_⟩
 rw [hrun]; rfl
 rw [hrun]; rfl
 refine ak (ag ?_)
 have hs1 : (aL r).1 = true := by cases h : (aL r).1 with | true => rfl | false => rw [h] at hc31; cases hc31
 have hr1 := hr.step.ok
 obtain ⟨q, hq⟩ : ∃ q, q = (aL r).2 := ⟨_, rfl⟩
 rw [← hq] at hr1 ⊢
 have hnv := hr1.nv
 have hnc := hr1.nc
 refine j2 O Z Z (jn (ah (ag (j4 O Z Z Z Z (j2 O Z Z (jf [37,7,6,5,4,0,1] Z (jn (ae O Z Z (fun hc37 => ?_) (fun hc37 => ?_)))))))))
 refine jw [5,4,0,1] Z (fc O [_,_,_,_,_,_,_,_,_,_,_,_,_,_,_,_] [pn [] 0 0, pn [0] 0 0, pn [0,1] 0 0, pn [0,1,2] 0 0, pn (rg 0 4) 0 0, pn [] 0 0, pe (rg 0 6) 0, pn [] 0 1, pn [7] 0 1, pn [7,8] 0 1, pn [7,8,9] 0 1, pn (rg 7 4) 0 1, pn [] 0 1, pe (rg 0 13) 1, pn (rg 0 14) 2 2, pn (rg 0 15) 2 2] [6,13] [_,_,_] (kc O Z (kc O Z (kc O Z (kc O Z (kc O Z (kc O Z (ai (bL O (B0 := 45000) Z Z Z Z (gF (t := su) (vars := q.vars) h1 h2 hsf.1 hr1.vars) (.cons (.agg (aC Z)) (.cons (.c (.whole Z (by rw [cw]; exact hnv.symm))) .nil)) Z Z Z Z Z) (ai (kc O Z (V O Z)) (ai (kc O Z (V O Z)) (ai (kc O Z (V O Z)) (ai (kc O Z (V O Z)) (ai (kc O Z (V O Z)) (ai (kc O Z (V O Z)) (ai (bL O (B0 := 52000) Z Z Z Z (gF (t := ix) (vars := q.vars) h1 h2 hsf.2 hr1.vars) (.cons (.agg (aC Z)) (.cons (.c (.whole Z (by rw [cw]; exact hnv.symm))) .nil)) Z Z Z Z Z) (kc O Z (kc O Z trivial)))))))))))))))) ?_)
 refine jw [7,6,5,4,0,1] Z (bK ?_)
 refine ah (ag (j4 O Z Z Z Z (j3 O Z Z Z (jf [58,7,6,5,4,0,1] Z (aZ Z (js O Z (aZ Z (js O Z (jf [60,58,7,6,5,4,0,1] Z (aZ Z (js O Z (jf [61,58,7,6,5,4,0,1] Z (aZ Z (js O Z (jf [62,58,7,6,5,4,0,1] Z (aZ Z (js O Z (jf [63,58,7,6,5,4,0,1] Z (aZ Z (js O Z (aa (aG O Z Z Z Z Z) Z Z Z (js O Z (jf [66,7,6,5,4,0,1] Z (AOps.skip Z Z Z Z Z Z (AOps.skip Z Z Z Z Z Z (jf [68,66,7,6,5,4,0,1] Z (AOps.skip Z Z Z Z Z Z (aa (aG O Z Z Z Z Z) Z Z Z (jf [70,7,6,5,4,0,1] Z ?_)))))))))))))))))))))))))))))
 refine jn (ae O Z Z (fun hc70 => ?_) (fun hc70 => ?_))
 exact absurd (show false = true from hc70) (by decide)
 refine ak (ah (ag (j4 O Z Z Z Z (j3 O Z Z Z (jf [79,7,6,5,4,0,1] Z (aZ Z (js O Z (aZ Z (js O Z (jf [81,79,7,6,5,4,0,1] Z (aZ Z (js O Z (jf [82,79,7,6,5,4,0,1] Z (aZ Z (js O Z (jf [83,79,7,6,5,4,0,1] Z (aZ Z (js O Z (jf [84,79,7,6,5,4,0,1] Z (aZ Z (js O Z (aa (aG O Z Z Z Z Z) Z Z Z (js O Z (jf [87,7,6,5,4,0,1] Z (AOps.skip Z Z Z Z Z Z (AOps.skip Z Z Z Z Z Z (jf [89,87,7,6,5,4,0,1] Z (AOps.skip Z Z Z Z Z Z (aa (aG O Z Z Z Z Z) Z Z Z ?_)))))))))))))))))))))))))))))
 refine jf [91,7,6,5,4,0,1] Z (jn (ae O Z Z (fun hc91 => ?_) (fun hc91 => ?_)))
 exact absurd (show false = true from hc91) (by decide)
 refine ak (ah (ag (j4 O Z Z Z Z (js O Z (jf [98,7,6,5,4,0,1] Z (jn (aq (ag (j2 O Z Z (jn (ae O Z Z (fun hc99 => ?_) (fun hc99 => ?_))))))))))))
 exact absurd (show false = true from hc99) (by decide)
 refine ag (j2 O Z Z (jf [119,100,98,7,6,5,4,0,1] Z (jn (ae O Z Z (fun hc119 => ?_) (fun hc119 => ?_)))))
 exact absurd (show false = true from hc119) (by decide)
 refine ag (j2 O Z Z (jf [129,100,98,7,6,5,4,0,1] Z (jn (ae O Z Z (fun hc129 => ?_) (fun hc129 => ?_)))))
 exact absurd (show false = true from hc129) (by decide)
 refine ag (j2 O Z Z (jf [146,100,98,7,6,5,4,0,1] Z (jn (ae O Z Z (fun hc146 => ?_) (fun hc146 => ?_)))))
 exact absurd (show false = true from hc146) (by decide)
 refine ag (j2 O Z Z (jf [156,100,98,7,6,5,4,0,1] Z (jn (ae O Z Z (fun hc156 => ?_) (fun hc156 => ?_)))))
 exact absurd (show false = true from hc156) (by decide)
 refine ag (j2 O Z Z (jf [172,100,98,7,6,5,4,0,1] Z (jn (ae O Z Z (fun hc172 => ?_) (fun hc172 => ?_)))))
 exact absurd (show false = true from hc172) (by decide)
 refine ag (j2 O Z Z (jf [178,100,98,7,6,5,4,0,1] Z (jn (ae O Z Z (fun hc178 => ?_) (fun hc178 => ?_)))))
 exact absurd (show false = true from hc178) (by decide)
 refine ag (j2 O Z Z (jf [198,100,98,7,6,5,4,0,1] Z (jn (ae O Z Z (fun hc198 => ?_) (fun hc198 => ?_)))))
 exact absurd (show false = true from hc198) (by decide)
 refine ak (ag (js O Z (jr ?_)))
 have hrun : aU (.node ⟨0, vr, ev, su, ix, fa⟩ a []) r = (true, q) := by rw [bT, if_pos hs1, ← hq]; unfold leaf; rfl
 refine ⟨.inl Z, _, (am [500,501,502,503] Z Z (e' := [(4, _)]) ⟨Z, trivial⟩ Z).trans (ac 503 504 Z Z), _, Z, ?_, ?_⟩
 rw [hrun]; rfl
 rw [hrun]; rfl
 exact absurd (show true = false from hc37) (by decide)
theorem xe {r : RS} (hst : aW ⟨2, vr, ev, su, ix, fa⟩ = true) (hr : RSok r) : MQ h1 h2 58 [.c (.pt 0 0 0), .c (.d (Tr.d (.node ⟨2, vr, ev, su, ix, fa⟩ a [])))] (rH 3 r) (aS (eB (aU (.node ⟨2, vr, ev, su, ix, fa⟩ a []) r).1) (rH 4 (aU (.node ⟨2, vr, ev, su, ix, fa⟩ a []) r).2)) := by
 refine MC.shift 500 Z (jH 219 [500,501,502,503] h1 h2 Tryz.func58 Z Z Z Z fun O hF => ?_)
 refine bK ?_
 have hsf := cn hst
 refine ag (js O Z ?_)
 refine AOps.nil ?_
 refine AWP.seq ?_
 refine AWP.region ?_
 refine j4 O Z Z Z Z (j2 O Z Z (jf [5,4,0,1] Z (jn (ah (ag (j4 O Z Z Z Z (j3 O Z Z Z (jf [19,5,4,0,1] Z (aZ Z (js O Z (aZ Z (js O Z (jf [21,19,5,4,0,1] Z (aZ Z (js O Z (jf [22,19,5,4,0,1] Z (aZ Z (js O Z (jf [23,19,5,4,0,1] Z (aZ Z (js O Z (jf [24,19,5,4,0,1] Z (aZ Z (js O Z (aa (br O Z Z Z Z Z) Z Z Z (js O Z ?_))))))))))))))))))))))))))
 refine jf [27,5,4,0,1] Z (aZ Z (js O Z (aZ Z (aj O [500,501,502,503] (bin := [f5 3 r, aA (r).vars, aA (r).cells, aA (r).events]) Z Z Z Z (n3 (r := r) h1 h2 hr.lo (Int.le_trans hr.hi (Int.le_trans hr.fuel (by decide)))) Z Z Z Z Z Z (B0 := 30000) Z Z (ap ?_)))))
 refine jf [29,27,5,4,0,1] Z (aZ Z (js O Z (aa (br O Z Z Z Z Z) Z Z Z (jf [31,5,4,0,1] Z (jn (ae O Z Z (fun hc31 => ?_) (fun hc31 => ?_)))))))
 refine ag (js O Z (jr ?_))
 have hs0 : (aL r).1 = false := by cases h : (aL r).1 with | false => rfl | true => rw [h] at hc31; cases hc31
 have hrun : aU (.node ⟨2, vr, ev, su, ix, fa⟩ a []) r = (false, (aL r).2) := by rw [bT, if_neg (by rw [hs0]; decide)]
 refine ⟨.inl Z, _, (am [500,501,502,503] Z Z (e' := [(4, _)]) ⟨Z, trivial⟩ Z).trans (ac 503 504 Z Z), _, Z, ?_, ?_⟩
 rw [hrun]; rfl
 rw [hrun]; rfl
 refine ak (ag ?_)
 have hs1 : (aL r).1 = true := by cases h : (aL r).1 with | true => rfl | false => rw [h] at hc31; cases hc31
 have hr1 := hr.step.ok
 obtain ⟨q, hq⟩ : ∃ q, q = (aL r).2 := ⟨_, rfl⟩
 rw [← hq] at hr1 ⊢
 have hnv := hr1.nv
 have hnc := hr1.nc
 refine j2 O Z Z (jn (ah (ag (j4 O Z Z Z Z (j2 O Z Z (jf [37,7,6,5,4,0,1] Z (jn (ae O Z Z (fun hc37 => ?_) (fun hc37 => ?_)))))))))
 refine jw [5,4,0,1] Z (fc O [_,_,_,_,_,_,_,_,_,_,_,_,_,_,_,_] [pn [] 0 0, pn [0] 0 0, pn [0,1] 0 0, pn [0,1,2] 0 0, pn (rg 0 4) 0 0, pn [] 0 0, pe (rg 0 6) 0, pn [] 0 1, pn [7] 0 1, pn [7,8] 0 1, pn [7,8,9] 0 1, pn (rg 7 4) 0 1, pn [] 0 1, pe (rg 0 13) 1, pn (rg 0 14) 2 2, pn (rg 0 15) 2 2] [6,13] [_,_,_] (kc O Z (kc O Z (kc O Z (kc O Z (kc O Z (kc O Z (ai (bL O (B0 := 45000) Z Z Z Z (gF (t := su) (vars := q.vars) h1 h2 hsf.1 hr1.vars) (.cons (.agg (aC Z)) (.cons (.c (.whole Z (by rw [cw]; exact hnv.symm))) .nil)) Z Z Z Z Z) (ai (kc O Z (V O Z)) (ai (kc O Z (V O Z)) (ai (kc O Z (V O Z)) (ai (kc O Z (V O Z)) (ai (kc O Z (V O Z)) (ai (kc O Z (V O Z)) (ai (bL O (B0 := 52000) Z Z Z Z (gF (t := ix) (vars := q.vars) h1 h2 hsf.2 hr1.vars) (.cons (.agg (aC Z)) (.cons (.c (.whole Z (by rw [cw]; exact hnv.symm))) .nil)) Z Z Z Z Z) (kc O Z (kc O Z trivial)))))))))))))))) ?_)
 refine jw [7,6,5,4,0,1] Z (bK ?_)
 refine ah (ag (j4 O Z Z Z Z (j3 O Z Z Z (jf [58,7,6,5,4,0,1] Z (aZ Z (js O Z (aZ Z (js O Z (jf [60,58,7,6,5,4,0,1] Z (aZ Z (js O Z (jf [61,58,7,6,5,4,0,1] Z (aZ Z (js O Z (jf [62,58,7,6,5,4,0,1] Z (aZ Z (js O Z (jf [63,58,7,6,5,4,0,1] Z (aZ Z (js O Z (aa (aG O Z Z Z Z Z) Z Z Z (js O Z (jf [66,7,6,5,4,0,1] Z (AOps.skip Z Z Z Z Z Z (AOps.skip Z Z Z Z Z Z (jf [68,66,7,6,5,4,0,1] Z (AOps.skip Z Z Z Z Z Z (aa (aG O Z Z Z Z Z) Z Z Z (jf [70,7,6,5,4,0,1] Z ?_)))))))))))))))))))))))))))))
 refine jn (ae O Z Z (fun hc70 => ?_) (fun hc70 => ?_))
 exact absurd (show false = true from hc70) (by decide)
 refine ak (ah (ag (j4 O Z Z Z Z (j3 O Z Z Z (jf [79,7,6,5,4,0,1] Z (AOps.skip Z Z Z Z Z Z (AOps.skip Z Z Z Z Z Z (jf [81,79,7,6,5,4,0,1] Z (AOps.skip Z Z Z Z Z Z (jf [82,79,7,6,5,4,0,1] Z (AOps.skip Z Z Z Z Z Z (jf [83,79,7,6,5,4,0,1] Z (AOps.skip Z Z Z Z Z Z (jf [84,79,7,6,5,4,0,1] Z (AOps.skip Z Z Z Z Z Z (aa (br O Z Z Z Z Z) Z Z Z (js O Z (jf [87,7,6,5,4,0,1] Z (aZ Z (js O Z (aZ Z (aB O Z Z Z Z (ye h1 h2) (af Z) Z Z Z Z Z (B0 := 90000) Z (jf [89,87,7,6,5,4,0,1] Z (aZ Z (js O Z (aa (br O Z Z Z Z Z) Z Z Z (jf [91,7,6,5,4,0,1] Z (jn (ae O Z Z (fun hc91 => ?_) (fun hc91 => ?_))))))))))))))))))))))))))))))
 refine ag (js O Z (jf [92,7,6,5,4,0,1] Z ?_))
 have hb91 : jk (aT su q.vars) = false := by cases h : jk (aT su q.vars) with | false => rfl | true => exact absurd (show false = true from (by have h9 := hc91; rw [h] at h9; exact h9)) (by decide)
 refine aj O [500,501,502,503] (bin := [f5 3 q, aA (q).vars, aA (q).cells, aA (q).events]) Z Z Z Z (so (r := q) (x := 4) h1 h2) Z Z Z Z Z Z (B0 := 94000) Z Z (ap ?_)
 refine js O Z (jf [4,7,6,5,0,1] Z (jr ?_))
 have hrun : aU (.node ⟨2, vr, ev, su, ix, fa⟩ a []) r = (false, { q with out := 4 }) := by rw [bT, if_pos hs1, ← hq]; unfold leaf; rw [if_pos Z, if_neg (show ¬ jk (aT su q.vars) = true by rw [hb91]; decide)]
 refine ⟨.inl Z, _, (am [500,501,502,503] Z Z (e' := [(4, _)]) ⟨Z, trivial⟩ Z).trans (ac 503 504 Z Z), _, Z, ?_, ?_⟩
 rw [hrun]; rfl
 rw [hrun]; rfl
 refine ak (ah (ag (j4 O Z Z Z Z (js O Z (jf [98,7,6,5,4,0,1] Z (jn (aq (ag (j2 O Z Z (jn (ae O Z Z (fun hc99 => ?_) (fun hc99 => ?_))))))))))))
 exact absurd (show false = true from hc99) (by decide)
 refine ag (j2 O Z Z (jf [119,100,98,7,6,5,4,0,1] Z (jn (ae O Z Z (fun hc119 => ?_) (fun hc119 => ?_)))))
 refine an (j4 O Z Z Z Z (js O Z ?_))
 have hb91 : jk (aT su q.vars) = true := by cases h : jk (aT su q.vars) with | true => rfl | false => exact absurd (show true = false from (by have h9 := hc91; rw [h] at h9; exact h9)) (by decide)
 have hv := lF hst Z
 have hv1 : 0 ≤ vr := hv.1
 have hv2 : vr ≤ 3 := hv.2
 refine j2 O Z Z (fI O Z Z (jf [128,127,100,98,7,6,5,4,0,1] Z (AOps.heap (cv (ex := [.int .i64 (q.vars.getD vr.toNat default)]) (xs' := (q.vars.set vr.toNat (aT su q.vars)).map fun n => [.int .i64 n]) O Z Z Z Z Z Z Z Z Z Z Z Z Z Z (by simp [show vr.toNat < q.vars.length by omega]) (by simp [List.map_set])) Z (ap ?_))))
 refine jf [100,98,7,6,5,4,0,1] Z ?_
 refine AOps.nil ?_
 refine AWP.seq ?_
 refine AWP.region ?_
 refine js O Z (jr ?_)
 have hrun : aU (.node ⟨2, vr, ev, su, ix, fa⟩ a []) r = (true, { q with vars := q.vars.set vr.toNat (aT su q.vars) }) := by rw [bT, if_pos hs1, ← hq]; unfold leaf; rw [if_pos Z, if_pos (show jk (aT su q.vars) = true from hb91)]
 refine ⟨.inl Z, _, (am [500,501,502,503] Z Z (e' := [(4, _)]) ⟨Z, trivial⟩ Z).trans (ac 503 504 Z Z), _, Z, ?_, ?_⟩
 rw [hrun]; rfl
 rw [hrun]; rfl
 exact absurd (show true = false from hc119) (by decide)
 exact absurd (show true = false from hc37) (by decide)
theorem xd {r : RS} (hst : aW ⟨3, vr, ev, su, ix, fa⟩ = true) (hr : RSok r) : MQ h1 h2 58 [.c (.pt 0 0 0), .c (.d (Tr.d (.node ⟨3, vr, ev, su, ix, fa⟩ a [])))] (rH 3 r) (aS (eB (aU (.node ⟨3, vr, ev, su, ix, fa⟩ a []) r).1) (rH 4 (aU (.node ⟨3, vr, ev, su, ix, fa⟩ a []) r).2)) := by
 refine MC.shift 500 Z (jH 219 [500,501,502,503] h1 h2 Tryz.func58 Z Z Z Z fun O hF => ?_)
 refine bK ?_
 have hsf := cn hst
 refine ag (js O Z (bn (j4 O Z Z Z Z (j2 O Z Z (jf [5,4,0,1] Z (jn (ah (ag (j4 O Z Z Z Z (j3 O Z Z Z (jf [19,5,4,0,1] Z (aZ Z (js O Z (aZ Z (js O Z (jf [21,19,5,4,0,1] Z (aZ Z (js O Z (jf [22,19,5,4,0,1] Z (aZ Z (js O Z (jf [23,19,5,4,0,1] Z (aZ Z (js O Z (jf [24,19,5,4,0,1] Z (aZ Z (js O Z (aa (br O Z Z Z Z Z) Z Z Z (js O Z ?_)))))))))))))))))))))))))))))
 refine jf [27,5,4,0,1] Z (aZ Z (js O Z (aZ Z (aj O [500,501,502,503] (bin := [f5 3 r, aA (r).vars, aA (r).cells, aA (r).events]) Z Z Z Z (n3 (r := r) h1 h2 hr.lo (Int.le_trans hr.hi (Int.le_trans hr.fuel (by decide)))) Z Z Z Z Z Z (B0 := 30000) Z Z (ap ?_)))))
 refine jf [29,27,5,4,0,1] Z (aZ Z (js O Z (aa (br O Z Z Z Z Z) Z Z Z (jf [31,5,4,0,1] Z (jn (ae O Z Z (fun hc31 => ?_) (fun hc31 => ?_)))))))
 refine ag (js O Z (jr ?_))
 have hs0 : (aL r).1 = false := by cases h : (aL r).1 with | false => rfl | true => rw [h] at hc31; cases hc31
 have hrun : aU (.node ⟨3, vr, ev, su, ix, fa⟩ a []) r = (false, (aL r).2) := by rw [bT, if_neg (by rw [hs0]; decide)]
 refine ⟨.inl Z, _, (am [500,501,502,503] Z Z (e' := [(4, _)]) ⟨Z, trivial⟩ Z).trans (ac 503 504 Z Z), _, Z, ?_, ?_⟩
 rw [hrun]; rfl
 rw [hrun]; rfl
 refine ak (ag ?_)
 have hs1 : (aL r).1 = true := by cases h : (aL r).1 with | true => rfl | false => rw [h] at hc31; cases hc31
 have hr1 := hr.step.ok
 obtain ⟨q, hq⟩ : ∃ q, q = (aL r).2 := ⟨_, rfl⟩
 rw [← hq] at hr1 ⊢
 have hnv := hr1.nv
 have hnc := hr1.nc
 refine j2 O Z Z (jn (ah (ag (j4 O Z Z Z Z (j2 O Z Z (jf [37,7,6,5,4,0,1] Z (jn (ae O Z Z (fun hc37 => ?_) (fun hc37 => ?_)))))))))
 refine jw [5,4,0,1] Z (fc O [_,_,_,_,_,_,_,_,_,_,_,_,_,_,_,_] [pn [] 0 0, pn [0] 0 0, pn [0,1] 0 0, pn [0,1,2] 0 0, pn (rg 0 4) 0 0, pn [] 0 0, pe (rg 0 6) 0, pn [] 0 1, pn [7] 0 1, pn [7,8] 0 1, pn [7,8,9] 0 1, pn (rg 7 4) 0 1, pn [] 0 1, pe (rg 0 13) 1, pn (rg 0 14) 2 2, pn (rg 0 15) 2 2] [6,13] [_,_,_] (kc O Z (kc O Z (kc O Z (kc O Z (kc O Z (kc O Z (ai (bL O (B0 := 45000) Z Z Z Z (gF (t := su) (vars := q.vars) h1 h2 hsf.1 hr1.vars) (.cons (.agg (aC Z)) (.cons (.c (.whole Z (by rw [cw]; exact hnv.symm))) .nil)) Z Z Z Z Z) (ai (kc O Z (V O Z)) (ai (kc O Z (V O Z)) (ai (kc O Z (V O Z)) (ai (kc O Z (V O Z)) (ai (kc O Z (V O Z)) (ai (kc O Z (V O Z)) (ai (bL O (B0 := 52000) Z Z Z Z (gF (t := ix) (vars := q.vars) h1 h2 hsf.2 hr1.vars) (.cons (.agg (aC Z)) (.cons (.c (.whole Z (by rw [cw]; exact hnv.symm))) .nil)) Z Z Z Z Z) (kc O Z (kc O Z trivial)))))))))))))))) ?_)
 refine jw [7,6,5,4,0,1] Z (bK ?_)
 refine ah (ag (j4 O Z Z Z Z (j3 O Z Z Z (jf [58,7,6,5,4,0,1] Z (AOps.skip Z Z Z Z Z Z (AOps.skip Z Z Z Z Z Z (jf [60,58,7,6,5,4,0,1] Z (AOps.skip Z Z Z Z Z Z (jf [61,58,7,6,5,4,0,1] Z (AOps.skip Z Z Z Z Z Z (jf [62,58,7,6,5,4,0,1] Z (AOps.skip Z Z Z Z Z Z (jf [63,58,7,6,5,4,0,1] Z (AOps.skip Z Z Z Z Z Z (aa (br O Z Z Z Z Z) Z Z Z (js O Z (jf [66,7,6,5,4,0,1] Z (aZ Z (js O Z (aZ Z (aB O Z Z Z Z (n4 h1 h2) (af Z) Z Z Z Z Z (B0 := 69000) Z (jf [68,66,7,6,5,4,0,1] Z (aZ Z (js O Z (aa (br O Z Z Z Z Z) Z Z Z (jf [70,7,6,5,4,0,1] Z (jn (ae O Z Z (fun hc70 => ?_) (fun hc70 => ?_)))))))))))))))))))))))))))))
 refine ag (js O Z (jf [71,7,6,5,4,0,1] Z ?_))
 have hb70 : eL 0 7 (aT ix q.vars) = false := by cases h : eL 0 7 (aT ix q.vars) with | false => rfl | true => exact absurd (show false = true from (by have h9 := hc70; rw [h] at h9; exact h9)) (by decide)
 refine aj O [500,501,502,503] (bin := [f5 3 q, aA (q).vars, aA (q).cells, aA (q).events]) Z Z Z Z (so (r := q) (x := 2) h1 h2) Z Z Z Z Z Z (B0 := 73000) Z Z (ap ?_)
 refine js O Z (jf [4,7,6,5,0,1] Z (jr ?_))
 have hrun : aU (.node ⟨3, vr, ev, su, ix, fa⟩ a []) r = (false, { q with out := 2 }) := by rw [bT, if_pos hs1, ← hq]; unfold leaf; rw [if_neg (by decide : ¬ (3 : Int) = 2), if_pos Z, if_neg (show ¬ eL 0 7 (aT ix q.vars) = true by rw [hb70]; decide)]
 refine ⟨.inl Z, _, (am [500,501,502,503] Z Z (e' := [(4, _)]) ⟨Z, trivial⟩ Z).trans (ac 503 504 Z Z), _, Z, ?_, ?_⟩
 rw [hrun]; rfl
 rw [hrun]; rfl
 refine ak (ah (ag ?_))
 have hb70 : eL 0 7 (aT ix q.vars) = true := by cases h : eL 0 7 (aT ix q.vars) with | true => rfl | false => exact absurd (show true = false from (by have h9 := hc70; rw [h] at h9; exact h9)) (by decide)
 have hin0 : 0 ≤ aT ix q.vars ∧ aT ix q.vars ≤ 7 := by simpa [eL] using hb70
 have hin1 := hin0.1
 have hin2 := hin0.2
 have hv := lF hst Z
 have hv1 : 0 ≤ vr := hv.1
 have hv2 : vr ≤ 3 := hv.2
 refine j4 O Z Z Z Z (j3 O Z Z Z (jf [79,7,6,5,4,0,1] Z (aZ Z (js O Z (aZ Z (js O Z (jf [81,79,7,6,5,4,0,1] Z (aZ Z (js O Z (jf [82,79,7,6,5,4,0,1] Z (aZ Z (js O Z (jf [83,79,7,6,5,4,0,1] Z (aZ Z (js O Z (jf [84,79,7,6,5,4,0,1] Z (aZ Z (js O Z (aa (aG O Z Z Z Z Z) Z Z Z (js O Z (jf [87,7,6,5,4,0,1] Z (AOps.skip Z Z Z Z Z Z (AOps.skip Z Z Z Z Z Z (jf [89,87,7,6,5,4,0,1] Z (AOps.skip Z Z Z Z Z Z (aa (aG O Z Z Z Z Z) Z Z Z (jf [91,7,6,5,4,0,1] Z (jn (ae O Z Z (fun hc91 => ?_) (fun hc91 => ?_))))))))))))))))))))))))))))))
 exact absurd (show false = true from hc91) (by decide)
 refine ak (ah (ag (j4 O Z Z Z Z (js O Z (jf [98,7,6,5,4,0,1] Z (jn (aq (ag (j2 O Z Z (jn (ae O Z Z (fun hc99 => ?_) (fun hc99 => ?_))))))))))))
 exact absurd (show false = true from hc99) (by decide)
 refine ag (j2 O Z Z (jf [119,100,98,7,6,5,4,0,1] Z (jn (ae O Z Z (fun hc119 => ?_) (fun hc119 => ?_)))))
 exact absurd (show false = true from hc119) (by decide)
 refine ag (j2 O Z Z (jf [129,100,98,7,6,5,4,0,1] Z (jn (ae O Z Z (fun hc129 => ?_) (fun hc129 => ?_)))))
 refine jw [100,98,7,6,5,4,0,1] Z (fc O [_,_,_,_,_,_,_,_,_,_,_,_,_,_,_,_] [pn [] 0 0, pn [] 0 0, pn [1] 0 0, pn [1,2] 0 0, pn [1,2,3] 0 0, pn (rg 1 4) 0 0, pn [] 0 0, pn [6] 0 0, pn [6,7] 0 0, pn [6,7,8] 0 0, pn (rg 6 4) 0 0, pn [] 0 0, pn (rg 6 6) 0 0, pn (rg 6 7) 0 0, pn (rg 0 14) 0 0, pe (rg 0 15) 0] [15] [_,_] (kc O Z (kc O Z (kc O Z (kc O Z (kc O Z (kc O Z (kc O Z (kc O Z (kc O Z (kc O Z (kc O Z (kc O Z (ai (vI O Z Z) (ai (eJ O (ex := [.int .i64 (q.cells.getD (aT ix q.vars).toNat default)]) Z Z Z Z (by simp [show (aT ix q.vars).toNat < q.cells.length by omega]) Z) (ai (vI O Z Z) (ai (cu (ex := [.int .i64 (q.vars.getD vr.toNat default)]) (xs' := (q.vars.set vr.toNat (q.cells.getD (aT ix q.vars).toNat default)).map fun n => [.int .i64 n]) O Z Z Z Z Z Z Z Z Z Z Z Z Z Z Z (by simp [show vr.toNat < q.vars.length by omega]) (by simp [List.map_set]) Z) trivial)))))))))))))))) ?_)
 refine jw [100,98,7,6,5,4,0,1] Z (bK ?_)
 refine ag (js O Z (jr ?_))
 have hrun : aU (.node ⟨3, vr, ev, su, ix, fa⟩ a []) r = (true, { q with vars := q.vars.set vr.toNat (q.cells.getD (aT ix q.vars).toNat default) }) := by rw [bT, if_pos hs1, ← hq]; unfold leaf; rw [if_neg (by decide : ¬ (3 : Int) = 2), if_pos Z, if_pos (show eL 0 7 (aT ix q.vars) = true from hb70)]
 refine ⟨.inl Z, _, (am [500,501,502,503] Z Z (e' := [(4, _)]) ⟨Z, trivial⟩ Z).trans (ac 503 504 Z Z), _, Z, ?_, ?_⟩
 rw [hrun]; rfl
 rw [hrun]; rfl
 exact absurd (show true = false from hc129) (by decide)
 exact absurd (show true = false from hc37) (by decide)
theorem xc {r : RS} (hst : aW ⟨4, vr, ev, su, ix, fa⟩ = true) (hr : RSok r) : MQ h1 h2 58 [.c (.pt 0 0 0), .c (.d (Tr.d (.node ⟨4, vr, ev, su, ix, fa⟩ a [])))] (rH 3 r) (aS (eB (aU (.node ⟨4, vr, ev, su, ix, fa⟩ a []) r).1) (rH 4 (aU (.node ⟨4, vr, ev, su, ix, fa⟩ a []) r).2)) := by
 refine MC.shift 500 Z (jH 219 [500,501,502,503] h1 h2 Tryz.func58 Z Z Z Z fun O hF => ?_)
 refine bK ?_
 have hsf := cn hst
 refine ag (js O Z ?_)
 refine AOps.nil ?_
 refine AWP.seq ?_
 refine AWP.region ?_
 refine j4 O Z Z Z Z (j2 O Z Z (jf [5,4,0,1] Z (jn (ah (ag (j4 O Z Z Z Z (j3 O Z Z Z (jf [19,5,4,0,1] Z (aZ Z (js O Z (aZ Z (js O Z (jf [21,19,5,4,0,1] Z (aZ Z (js O Z (jf [22,19,5,4,0,1] Z (aZ Z (js O Z (jf [23,19,5,4,0,1] Z (aZ Z (js O Z (jf [24,19,5,4,0,1] Z (aZ Z (js O Z (aa (br O Z Z Z Z Z) Z Z Z (js O Z ?_))))))))))))))))))))))))))
 refine jf [27,5,4,0,1] Z (aZ Z (js O Z (aZ Z (aj O [500,501,502,503] (bin := [f5 3 r, aA (r).vars, aA (r).cells, aA (r).events]) Z Z Z Z (n3 (r := r) h1 h2 hr.lo (Int.le_trans hr.hi (Int.le_trans hr.fuel (by decide)))) Z Z Z Z Z Z (B0 := 30000) Z Z (ap ?_)))))
 refine jf [29,27,5,4,0,1] Z (aZ Z (js O Z (aa (br O Z Z Z Z Z) Z Z Z (jf [31,5,4,0,1] Z (jn (ae O Z Z (fun hc31 => ?_) (fun hc31 => ?_)))))))
 refine ag (js O Z (jr ?_))
 have hs0 : (aL r).1 = false := by cases h : (aL r).1 with | false => rfl | true => rw [h] at hc31; cases hc31
 have hrun : aU (.node ⟨4, vr, ev, su, ix, fa⟩ a []) r = (false, (aL r).2) := by rw [bT, if_neg (by rw [hs0]; decide)]
 refine ⟨.inl Z, _, (am [500,501,502,503] Z Z (e' := [(4, _)]) ⟨Z, trivial⟩ Z).trans (ac 503 504 Z Z), _, Z, ?_, ?_⟩
 rw [hrun]; rfl
 rw [hrun]; rfl
 refine ak (ag ?_)
 have hs1 : (aL r).1 = true := by cases h : (aL r).1 with | true => rfl | false => rw [h] at hc31; cases hc31
 have hr1 := hr.step.ok
 obtain ⟨q, hq⟩ : ∃ q, q = (aL r).2 := ⟨_, rfl⟩
 rw [← hq] at hr1 ⊢
 have hnv := hr1.nv
 have hnc := hr1.nc
 refine j2 O Z Z (jn (ah (ag (j4 O Z Z Z Z (j2 O Z Z (jf [37,7,6,5,4,0,1] Z (jn (ae O Z Z (fun hc37 => ?_) (fun hc37 => ?_)))))))))
 refine jw [5,4,0,1] Z (fc O [_,_,_,_,_,_,_,_,_,_,_,_,_,_,_,_] [pn [] 0 0, pn [0] 0 0, pn [0,1] 0 0, pn [0,1,2] 0 0, pn (rg 0 4) 0 0, pn [] 0 0, pe (rg 0 6) 0, pn [] 0 1, pn [7] 0 1, pn [7,8] 0 1, pn [7,8,9] 0 1, pn (rg 7 4) 0 1, pn [] 0 1, pe (rg 0 13) 1, pn (rg 0 14) 2 2, pn (rg 0 15) 2 2] [6,13] [_,_,_] (kc O Z (kc O Z (kc O Z (kc O Z (kc O Z (kc O Z (ai (bL O (B0 := 45000) Z Z Z Z (gF (t := su) (vars := q.vars) h1 h2 hsf.1 hr1.vars) (.cons (.agg (aC Z)) (.cons (.c (.whole Z (by rw [cw]; exact hnv.symm))) .nil)) Z Z Z Z Z) (ai (kc O Z (V O Z)) (ai (kc O Z (V O Z)) (ai (kc O Z (V O Z)) (ai (kc O Z (V O Z)) (ai (kc O Z (V O Z)) (ai (kc O Z (V O Z)) (ai (bL O (B0 := 52000) Z Z Z Z (gF (t := ix) (vars := q.vars) h1 h2 hsf.2 hr1.vars) (.cons (.agg (aC Z)) (.cons (.c (.whole Z (by rw [cw]; exact hnv.symm))) .nil)) Z Z Z Z Z) (kc O Z (kc O Z trivial)))))))))))))))) ?_)
 refine jw [7,6,5,4,0,1] Z (bK ?_)
 refine ah (ag (j4 O Z Z Z Z (j3 O Z Z Z (jf [58,7,6,5,4,0,1] Z (aZ Z (js O Z (aZ Z (js O Z (jf [60,58,7,6,5,4,0,1] Z (aZ Z (js O Z (jf [61,58,7,6,5,4,0,1] Z (aZ Z (js O Z (jf [62,58,7,6,5,4,0,1] Z (aZ Z (js O Z (jf [63,58,7,6,5,4,0,1] Z (aZ Z (js O Z (aa (aG O Z Z Z Z Z) Z Z Z (js O Z (jf [66,7,6,5,4,0,1] Z (aZ Z (js O Z (aZ Z (aB O Z Z Z Z (n4 h1 h2) (af Z) Z Z Z Z Z (B0 := 69000) Z (jf [68,66,7,6,5,4,0,1] Z (aZ Z ?_)))))))))))))))))))))))))))))
 refine js O Z (aa (br O Z Z Z Z Z) Z Z Z (jf [70,7,6,5,4,0,1] Z (jn (ae O Z Z (fun hc70 => ?_) (fun hc70 => ?_)))))
 refine ag (js O Z (jf [71,7,6,5,4,0,1] Z ?_))
 have hb70 : eL 0 7 (aT ix q.vars) = false := by cases h : eL 0 7 (aT ix q.vars) with | false => rfl | true => exact absurd (show false = true from (by have h9 := hc70; rw [h] at h9; exact h9)) (by decide)
 refine aj O [500,501,502,503] (bin := [f5 3 q, aA (q).vars, aA (q).cells, aA (q).events]) Z Z Z Z (so (r := q) (x := 2) h1 h2) Z Z Z Z Z Z (B0 := 73000) Z Z (ap ?_)
 refine js O Z (jf [4,7,6,5,0,1] Z (jr ?_))
 have hrun : aU (.node ⟨4, vr, ev, su, ix, fa⟩ a []) r = (false, { q with out := 2 }) := by rw [bT, if_pos hs1, ← hq]; unfold leaf; rw [if_neg (by decide : ¬ (4 : Int) = 2), if_neg (by decide : ¬ (4 : Int) = 3), if_pos Z, if_neg (show ¬ eL 0 7 (aT ix q.vars) = true by rw [hb70]; decide)]
 refine ⟨.inl Z, _, (am [500,501,502,503] Z Z (e' := [(4, _)]) ⟨Z, trivial⟩ Z).trans (ac 503 504 Z Z), _, Z, ?_, ?_⟩
 rw [hrun]; rfl
 rw [hrun]; rfl
 refine ak (ah (ag ?_))
 have hb70 : eL 0 7 (aT ix q.vars) = true := by cases h : eL 0 7 (aT ix q.vars) with | true => rfl | false => exact absurd (show true = false from (by have h9 := hc70; rw [h] at h9; exact h9)) (by decide)
 have hin0 : 0 ≤ aT ix q.vars ∧ aT ix q.vars ≤ 7 := by simpa [eL] using hb70
 have hin1 := hin0.1
 have hin2 := hin0.2
 refine j4 O Z Z Z Z (j3 O Z Z Z (jf [79,7,6,5,4,0,1] Z (aZ Z (js O Z (aZ Z (js O Z (jf [81,79,7,6,5,4,0,1] Z (aZ Z (js O Z (jf [82,79,7,6,5,4,0,1] Z (aZ Z (js O Z (jf [83,79,7,6,5,4,0,1] Z (aZ Z (js O Z (jf [84,79,7,6,5,4,0,1] Z (aZ Z (js O Z (aa (aG O Z Z Z Z Z) Z Z Z (js O Z (jf [87,7,6,5,4,0,1] Z (aZ Z (js O Z (aZ Z (aB O Z Z Z Z (ye h1 h2) (af Z) Z Z Z Z Z (B0 := 90000) Z (jf [89,87,7,6,5,4,0,1] Z (aZ Z (js O Z (aa (br O Z Z Z Z Z) Z Z Z ?_)))))))))))))))))))))))))))))
 refine jf [91,7,6,5,4,0,1] Z (jn (ae O Z Z (fun hc91 => ?_) (fun hc91 => ?_)))
 refine ag (js O Z (jf [92,7,6,5,4,0,1] Z ?_))
 have hb91 : jk (aT su q.vars) = false := by cases h : jk (aT su q.vars) with | false => rfl | true => exact absurd (show false = true from (by have h9 := hc91; rw [h] at h9; exact h9)) (by decide)
 refine aj O [500,501,502,503] (bin := [f5 3 q, aA (q).vars, aA (q).cells, aA (q).events]) Z Z Z Z (so (r := q) (x := 4) h1 h2) Z Z Z Z Z Z (B0 := 94000) Z Z (ap ?_)
 refine js O Z (jf [4,7,6,5,0,1] Z (jr ?_))
 have hrun : aU (.node ⟨4, vr, ev, su, ix, fa⟩ a []) r = (false, { q with out := 4 }) := by rw [bT, if_pos hs1, ← hq]; unfold leaf; rw [if_neg (by decide : ¬ (4 : Int) = 2), if_neg (by decide : ¬ (4 : Int) = 3), if_pos Z, if_pos (show eL 0 7 (aT ix q.vars) = true from hb70), if_neg (show ¬ jk (aT su q.vars) = true by rw [hb91]; decide)]
 refine ⟨.inl Z, _, (am [500,501,502,503] Z Z (e' := [(4, _)]) ⟨Z, trivial⟩ Z).trans (ac 503 504 Z Z), _, Z, ?_, ?_⟩
 rw [hrun]; rfl
 rw [hrun]; rfl
 refine ak (ah (ag ?_))
 have hb91 : jk (aT su q.vars) = true := by cases h : jk (aT su q.vars) with | true => rfl | false => exact absurd (show true = false from (by have h9 := hc91; rw [h] at h9; exact h9)) (by decide)
 refine j4 O Z Z Z Z (js O Z (jf [98,7,6,5,4,0,1] Z (jn (aq (ag (j2 O Z Z (jn (ae O Z Z (fun hc99 => ?_) (fun hc99 => ?_)))))))))
 exact absurd (show false = true from hc99) (by decide)
 refine ag (j2 O Z Z (jf [119,100,98,7,6,5,4,0,1] Z (jn (ae O Z Z (fun hc119 => ?_) (fun hc119 => ?_)))))
 exact absurd (show false = true from hc119) (by decide)
 refine ag (j2 O Z Z (jf [129,100,98,7,6,5,4,0,1] Z (jn (ae O Z Z (fun hc129 => ?_) (fun hc129 => ?_)))))
 exact absurd (show false = true from hc129) (by decide)
 refine ag (j2 O Z Z (jf [146,100,98,7,6,5,4,0,1] Z (jn (ae O Z Z (fun hc146 => ?_) (fun hc146 => ?_)))))
 refine an (j4 O Z Z Z Z (j3 O Z Z Z (fI O Z Z (jf [155,154,100,98,7,6,5,4,0,1] Z (AOps.heap (cv (ex := [.int .i64 (q.cells.getD (aT ix q.vars).toNat default)]) (xs' := (q.cells.set (aT ix q.vars).toNat (aT su q.vars)).map fun n => [.int .i64 n]) O Z Z Z Z Z Z Z Z Z Z Z Z Z Z (by simp [show (aT ix q.vars).toNat < q.cells.length by omega]) (by simp [List.map_set])) Z (ap ?_))))))
 refine jf [100,98,7,6,5,4,0,1] Z ?_
 refine AOps.nil ?_
 refine AWP.seq ?_
 refine AWP.region ?_
 refine js O Z (jr ?_)
 have hrun : aU (.node ⟨4, vr, ev, su, ix, fa⟩ a []) r = (true, { q with cells := q.cells.set (aT ix q.vars).toNat (aT su q.vars) }) := by rw [bT, if_pos hs1, ← hq]; unfold leaf; rw [if_neg (by decide : ¬ (4 : Int) = 2), if_neg (by decide : ¬ (4 : Int) = 3), if_pos Z, if_pos (show eL 0 7 (aT ix q.vars) = true from hb70), if_pos (show jk (aT su q.vars) = true from hb91)]
 refine ⟨.inl Z, _, (am [500,501,502,503] Z Z (e' := [(4, _)]) ⟨Z, trivial⟩ Z).trans (ac 503 504 Z Z), _, Z, ?_, ?_⟩
 rw [hrun]; rfl
 rw [hrun]; rfl
 exact absurd (show true = false from hc146) (by decide)
 exact absurd (show true = false from hc37) (by decide)
theorem xb {r : RS} (hst : aW ⟨5, vr, ev, su, ix, fa⟩ = true) (hr : RSok r) : MQ h1 h2 58 [.c (.pt 0 0 0), .c (.d (Tr.d (.node ⟨5, vr, ev, su, ix, fa⟩ a [])))] (rH 3 r) (aS (eB (aU (.node ⟨5, vr, ev, su, ix, fa⟩ a []) r).1) (rH 4 (aU (.node ⟨5, vr, ev, su, ix, fa⟩ a []) r).2)) := by
 refine MC.shift 500 Z (jH 219 [500,501,502,503] h1 h2 Tryz.func58 Z Z Z Z fun O hF => ?_)
 refine bK ?_
 have hsf := cn hst
 refine ag (js O Z (bn (j4 O Z Z Z Z (j2 O Z Z (jf [5,4,0,1] Z (jn (ah (ag (j4 O Z Z Z Z (j3 O Z Z Z (jf [19,5,4,0,1] Z (aZ Z (js O Z (aZ Z (js O Z (jf [21,19,5,4,0,1] Z (aZ Z (js O Z (jf [22,19,5,4,0,1] Z (aZ Z (js O Z (jf [23,19,5,4,0,1] Z (aZ Z (js O Z (jf [24,19,5,4,0,1] Z (aZ Z (js O Z (aa (br O Z Z Z Z Z) Z Z Z (js O Z ?_)))))))))))))))))))))))))))))
 refine jf [27,5,4,0,1] Z (aZ Z (js O Z (aZ Z (aj O [500,501,502,503] (bin := [f5 3 r, aA (r).vars, aA (r).cells, aA (r).events]) Z Z Z Z (n3 (r := r) h1 h2 hr.lo (Int.le_trans hr.hi (Int.le_trans hr.fuel (by decide)))) Z Z Z Z Z Z (B0 := 30000) Z Z (ap ?_)))))
 refine jf [29,27,5,4,0,1] Z (aZ Z (js O Z (aa (br O Z Z Z Z Z) Z Z Z (jf [31,5,4,0,1] Z (jn (ae O Z Z (fun hc31 => ?_) (fun hc31 => ?_)))))))
 refine ag (js O Z (jr ?_))
 have hs0 : (aL r).1 = false := by cases h : (aL r).1 with | false => rfl | true => rw [h] at hc31; cases hc31
 have hrun : aU (.node ⟨5, vr, ev, su, ix, fa⟩ a []) r = (false, (aL r).2) := by rw [bT, if_neg (by rw [hs0]; decide)]
 refine ⟨.inl Z, _, (am [500,501,502,503] Z Z (e' := [(4, _)]) ⟨Z, trivial⟩ Z).trans (ac 503 504 Z Z), _, Z, ?_, ?_⟩
 rw [hrun]; rfl
 rw [hrun]; rfl
 refine ak (ag ?_)
 have hs1 : (aL r).1 = true := by cases h : (aL r).1 with | true => rfl | false => rw [h] at hc31; cases hc31
 have hr1 := hr.step.ok
 obtain ⟨q, hq⟩ : ∃ q, q = (aL r).2 := ⟨_, rfl⟩
 rw [← hq] at hr1 ⊢
 have hnv := hr1.nv
 have hnc := hr1.nc
 refine j2 O Z Z (jn (ah (ag (j4 O Z Z Z Z (j2 O Z Z (jf [37,7,6,5,4,0,1] Z (jn (ae O Z Z (fun hc37 => ?_) (fun hc37 => ?_)))))))))
 refine jw [5,4,0,1] Z (fc O [_,_,_,_,_,_,_,_,_,_,_,_,_,_,_,_] [pn [] 0 0, pn [0] 0 0, pn [0,1] 0 0, pn [0,1,2] 0 0, pn (rg 0 4) 0 0, pn [] 0 0, pe (rg 0 6) 0, pn [] 0 1, pn [7] 0 1, pn [7,8] 0 1, pn [7,8,9] 0 1, pn (rg 7 4) 0 1, pn [] 0 1, pe (rg 0 13) 1, pn (rg 0 14) 2 2, pn (rg 0 15) 2 2] [6,13] [_,_,_] (kc O Z (kc O Z (kc O Z (kc O Z (kc O Z (kc O Z (ai (bL O (B0 := 45000) Z Z Z Z (gF (t := su) (vars := q.vars) h1 h2 hsf.1 hr1.vars) (.cons (.agg (aC Z)) (.cons (.c (.whole Z (by rw [cw]; exact hnv.symm))) .nil)) Z Z Z Z Z) (ai (kc O Z (V O Z)) (ai (kc O Z (V O Z)) (ai (kc O Z (V O Z)) (ai (kc O Z (V O Z)) (ai (kc O Z (V O Z)) (ai (kc O Z (V O Z)) (ai (bL O (B0 := 52000) Z Z Z Z (gF (t := ix) (vars := q.vars) h1 h2 hsf.2 hr1.vars) (.cons (.agg (aC Z)) (.cons (.c (.whole Z (by rw [cw]; exact hnv.symm))) .nil)) Z Z Z Z Z) (kc O Z (kc O Z trivial)))))))))))))))) ?_)
 refine jw [7,6,5,4,0,1] Z (bK ?_)
 refine ah (ag (j4 O Z Z Z Z (j3 O Z Z Z (jf [58,7,6,5,4,0,1] Z (aZ Z (js O Z (aZ Z (js O Z (jf [60,58,7,6,5,4,0,1] Z (aZ Z (js O Z (jf [61,58,7,6,5,4,0,1] Z (aZ Z (js O Z (jf [62,58,7,6,5,4,0,1] Z (aZ Z (js O Z (jf [63,58,7,6,5,4,0,1] Z (aZ Z (js O Z (aa (aG O Z Z Z Z Z) Z Z Z (js O Z (jf [66,7,6,5,4,0,1] Z (AOps.skip Z Z Z Z Z Z (AOps.skip Z Z Z Z Z Z (jf [68,66,7,6,5,4,0,1] Z (AOps.skip Z Z Z Z Z Z (aa (aG O Z Z Z Z Z) Z Z Z (jf [70,7,6,5,4,0,1] Z ?_)))))))))))))))))))))))))))))
 refine jn (ae O Z Z (fun hc70 => ?_) (fun hc70 => ?_))
 exact absurd (show false = true from hc70) (by decide)
 refine ak (ah (ag (j4 O Z Z Z Z (j3 O Z Z Z (jf [79,7,6,5,4,0,1] Z (aZ Z (js O Z (aZ Z (js O Z (jf [81,79,7,6,5,4,0,1] Z (aZ Z (js O Z (jf [82,79,7,6,5,4,0,1] Z (aZ Z (js O Z (jf [83,79,7,6,5,4,0,1] Z (aZ Z (js O Z (jf [84,79,7,6,5,4,0,1] Z (aZ Z (js O Z (aa (aG O Z Z Z Z Z) Z Z Z (js O Z (jf [87,7,6,5,4,0,1] Z (AOps.skip Z Z Z Z Z Z (AOps.skip Z Z Z Z Z Z (jf [89,87,7,6,5,4,0,1] Z (AOps.skip Z Z Z Z Z Z (aa (aG O Z Z Z Z Z) Z Z Z ?_)))))))))))))))))))))))))))))
 refine jf [91,7,6,5,4,0,1] Z (jn (ae O Z Z (fun hc91 => ?_) (fun hc91 => ?_)))
 exact absurd (show false = true from hc91) (by decide)
 refine ak (ah (ag (j4 O Z Z Z Z (js O Z (jf [98,7,6,5,4,0,1] Z (jn (aq (ag (j2 O Z Z (jn (ae O Z Z (fun hc99 => ?_) (fun hc99 => ?_))))))))))))
 exact absurd (show false = true from hc99) (by decide)
 refine ag (j2 O Z Z (jf [119,100,98,7,6,5,4,0,1] Z (jn (ae O Z Z (fun hc119 => ?_) (fun hc119 => ?_)))))
 exact absurd (show false = true from hc119) (by decide)
 refine ag (j2 O Z Z (jf [129,100,98,7,6,5,4,0,1] Z (jn (ae O Z Z (fun hc129 => ?_) (fun hc129 => ?_)))))
 exact absurd (show false = true from hc129) (by decide)
 refine ag (j2 O Z Z (jf [146,100,98,7,6,5,4,0,1] Z (jn (ae O Z Z (fun hc146 => ?_) (fun hc146 => ?_)))))
 exact absurd (show false = true from hc146) (by decide)
 refine ag (j2 O Z Z (jf [156,100,98,7,6,5,4,0,1] Z (jn (ae O Z Z (fun hc156 => ?_) (fun hc156 => ?_)))))
 refine jw [100,98,7,6,5,4,0,1] Z ?_
 have hev := hr1.events
 have hhi := hr1.hi
 have hfu := hr1.fuel
 refine jj O [_,_,_,_,_,_,_,_,_,_,_,_,_,_,_] [pn [] 0 2, pn [] 0 1, pn [1] 0 1, pn [1,2] 0 1, pn [1,2,3] 0 1, pn [] 0 0, pn [5] 0 0, pn [5,6] 0 0, pn [5,6,7] 0 0, pn (rg 5 4) 0 0, pe (rg 5 5) 0, pe (rg 1 10) 1, pn (rg 0 12) 2 2, pn (rg 0 13) 2 2, pe (rg 0 14) 2] [10,11,14] [_,_,_,_] [[], [503,168], []] (ai (ka O Z Z (ka O Z Z (kw O Z Z))) (ai (ka O Z Z (kw O Z Z)) (ai (ka O Z Z (kw O Z Z)) (ai (ka O Z Z (kw O Z Z)) (ai (ka O Z Z (kw O Z Z)) (ka O Z Z (ka O Z Z (ka O Z Z (ka O Z Z (ka O Z Z (ai (ai (aI (t6 O Z Z Z Z Z Z Z Z Z Z Z Z Z)) Z) (ai (ai (fV (zs := (q.events ++ [ev]).map fun n => [.int .i64 n]) (n := (q.events ++ [ev]).length) O Z Z Z Z Z Z Z Z Z Z Z Z Z Z Z Z (.row Z (cw _).symm) Z Z (by decide) Z (by rw [cw]; show q.events.length + 1 ≤ L; omega) (by rw [cw]; show (q.events.length + 1) * 8 ≤ _; omega) (by simp) (cw _) Z) Z) (ka O Z Z (ka O Z Z (ai (ai (aI (eS O Z Z Z)) Z) trivial))))))))))))))) ?_
 refine jw [100,98,7,6,5,4,0,1] Z (bK ?_)
 refine ag (js O Z (jr ?_))
 have hrun : aU (.node ⟨5, vr, ev, su, ix, fa⟩ a []) r = (true, { q with events := q.events ++ [ev] }) := by rw [bT, if_pos hs1, ← hq]; unfold leaf; rfl
 refine ⟨.inl Z, _, (am [500,501,502,169] Z Z (e' := [(4, _)]) ⟨Z, trivial⟩ Z).trans (ac 169 504 Z Z), _, Z, ?_, ?_⟩
 rw [hrun]; rfl
 rw [hrun]; rfl
 exact absurd (show true = false from hc156) (by decide)
 exact absurd (show true = false from hc37) (by decide)
theorem xa {r : RS} (hst : aW ⟨6, vr, ev, su, ix, fa⟩ = true) (hr : RSok r) : MQ h1 h2 58 [.c (.pt 0 0 0), .c (.d (Tr.d (.node ⟨6, vr, ev, su, ix, fa⟩ a [])))] (rH 3 r) (aS (eB (aU (.node ⟨6, vr, ev, su, ix, fa⟩ a []) r).1) (rH 4 (aU (.node ⟨6, vr, ev, su, ix, fa⟩ a []) r).2)) := by
 refine MC.shift 500 Z (jH 219 [500,501,502,503] h1 h2 Tryz.func58 Z Z Z Z fun O hF => ?_)
 refine bK ?_
 have hsf := cn hst
 refine ag (js O Z (bn (j4 O Z Z Z Z (j2 O Z Z (jf [5,4,0,1] Z (jn (ah (ag (j4 O Z Z Z Z (j3 O Z Z Z (jf [19,5,4,0,1] Z (aZ Z (js O Z (aZ Z (js O Z (jf [21,19,5,4,0,1] Z (aZ Z (js O Z (jf [22,19,5,4,0,1] Z (aZ Z (js O Z (jf [23,19,5,4,0,1] Z (aZ Z (js O Z (jf [24,19,5,4,0,1] Z (aZ Z (js O Z (aa (br O Z Z Z Z Z) Z Z Z (js O Z ?_)))))))))))))))))))))))))))))
 refine jf [27,5,4,0,1] Z (aZ Z (js O Z (aZ Z (aj O [500,501,502,503] (bin := [f5 3 r, aA (r).vars, aA (r).cells, aA (r).events]) Z Z Z Z (n3 (r := r) h1 h2 hr.lo (Int.le_trans hr.hi (Int.le_trans hr.fuel (by decide)))) Z Z Z Z Z Z (B0 := 30000) Z Z (ap ?_)))))
 refine jf [29,27,5,4,0,1] Z (aZ Z (js O Z (aa (br O Z Z Z Z Z) Z Z Z (jf [31,5,4,0,1] Z (jn (ae O Z Z (fun hc31 => ?_) (fun hc31 => ?_)))))))
 refine ag (js O Z (jr ?_))
 have hs0 : (aL r).1 = false := by cases h : (aL r).1 with | false => rfl | true => rw [h] at hc31; cases hc31
 have hrun : aU (.node ⟨6, vr, ev, su, ix, fa⟩ a []) r = (false, (aL r).2) := by rw [bT, if_neg (by rw [hs0]; decide)]
 refine ⟨.inl Z, _, (am [500,501,502,503] Z Z (e' := [(4, _)]) ⟨Z, trivial⟩ Z).trans (ac 503 504 Z Z), _, Z, ?_, ?_⟩
 rw [hrun]; rfl
 rw [hrun]; rfl
 refine ak (ag ?_)
 have hs1 : (aL r).1 = true := by cases h : (aL r).1 with | true => rfl | false => rw [h] at hc31; cases hc31
 have hr1 := hr.step.ok
 obtain ⟨q, hq⟩ : ∃ q, q = (aL r).2 := ⟨_, rfl⟩
 rw [← hq] at hr1 ⊢
 have hnv := hr1.nv
 have hnc := hr1.nc
 refine j2 O Z Z (jn (ah (ag (j4 O Z Z Z Z (j2 O Z Z (jf [37,7,6,5,4,0,1] Z (jn (ae O Z Z (fun hc37 => ?_) (fun hc37 => ?_)))))))))
 refine jw [5,4,0,1] Z (fc O [_,_,_,_,_,_,_,_,_,_,_,_,_,_,_,_] [pn [] 0 0, pn [0] 0 0, pn [0,1] 0 0, pn [0,1,2] 0 0, pn (rg 0 4) 0 0, pn [] 0 0, pe (rg 0 6) 0, pn [] 0 1, pn [7] 0 1, pn [7,8] 0 1, pn [7,8,9] 0 1, pn (rg 7 4) 0 1, pn [] 0 1, pe (rg 0 13) 1, pn (rg 0 14) 2 2, pn (rg 0 15) 2 2] [6,13] [_,_,_] (kc O Z (kc O Z (kc O Z (kc O Z (kc O Z (kc O Z (ai (bL O (B0 := 45000) Z Z Z Z (gF (t := su) (vars := q.vars) h1 h2 hsf.1 hr1.vars) (.cons (.agg (aC Z)) (.cons (.c (.whole Z (by rw [cw]; exact hnv.symm))) .nil)) Z Z Z Z Z) (ai (kc O Z (V O Z)) (ai (kc O Z (V O Z)) (ai (kc O Z (V O Z)) (ai (kc O Z (V O Z)) (ai (kc O Z (V O Z)) (ai (kc O Z (V O Z)) (ai (bL O (B0 := 52000) Z Z Z Z (gF (t := ix) (vars := q.vars) h1 h2 hsf.2 hr1.vars) (.cons (.agg (aC Z)) (.cons (.c (.whole Z (by rw [cw]; exact hnv.symm))) .nil)) Z Z Z Z Z) (kc O Z (kc O Z trivial)))))))))))))))) ?_)
 refine jw [7,6,5,4,0,1] Z (bK ?_)
 refine ah (ag (j4 O Z Z Z Z (j3 O Z Z Z (jf [58,7,6,5,4,0,1] Z (aZ Z (js O Z (aZ Z (js O Z (jf [60,58,7,6,5,4,0,1] Z (aZ Z (js O Z (jf [61,58,7,6,5,4,0,1] Z (aZ Z (js O Z (jf [62,58,7,6,5,4,0,1] Z (aZ Z (js O Z (jf [63,58,7,6,5,4,0,1] Z (aZ Z (js O Z (aa (aG O Z Z Z Z Z) Z Z Z (js O Z (jf [66,7,6,5,4,0,1] Z (AOps.skip Z Z Z Z Z Z (AOps.skip Z Z Z Z Z Z (jf [68,66,7,6,5,4,0,1] Z (AOps.skip Z Z Z Z Z Z (aa (aG O Z Z Z Z Z) Z Z Z (jf [70,7,6,5,4,0,1] Z ?_)))))))))))))))))))))))))))))
 refine jn (ae O Z Z (fun hc70 => ?_) (fun hc70 => ?_))
 exact absurd (show false = true from hc70) (by decide)
 refine ak (ah (ag (j4 O Z Z Z Z (j3 O Z Z Z (jf [79,7,6,5,4,0,1] Z (aZ Z (js O Z (aZ Z (js O Z (jf [81,79,7,6,5,4,0,1] Z (aZ Z (js O Z (jf [82,79,7,6,5,4,0,1] Z (aZ Z (js O Z (jf [83,79,7,6,5,4,0,1] Z (aZ Z (js O Z (jf [84,79,7,6,5,4,0,1] Z (aZ Z (js O Z (aa (aG O Z Z Z Z Z) Z Z Z (js O Z (jf [87,7,6,5,4,0,1] Z (AOps.skip Z Z Z Z Z Z (AOps.skip Z Z Z Z Z Z (jf [89,87,7,6,5,4,0,1] Z (AOps.skip Z Z Z Z Z Z (aa (aG O Z Z Z Z Z) Z Z Z ?_)))))))))))))))))))))))))))))
 refine jf [91,7,6,5,4,0,1] Z (jn (ae O Z Z (fun hc91 => ?_) (fun hc91 => ?_)))
 exact absurd (show false = true from hc91) (by decide)
 refine ak (ah (ag (j4 O Z Z Z Z (js O Z (jf [98,7,6,5,4,0,1] Z (jn (aq (ag (j2 O Z Z (jn (ae O Z Z (fun hc99 => ?_) (fun hc99 => ?_))))))))))))
 exact absurd (show false = true from hc99) (by decide)
 refine ag (j2 O Z Z (jf [119,100,98,7,6,5,4,0,1] Z (jn (ae O Z Z (fun hc119 => ?_) (fun hc119 => ?_)))))
 exact absurd (show false = true from hc119) (by decide)
 refine ag (j2 O Z Z (jf [129,100,98,7,6,5,4,0,1] Z (jn (ae O Z Z (fun hc129 => ?_) (fun hc129 => ?_)))))
 exact absurd (show false = true from hc129) (by decide)
 refine ag (j2 O Z Z (jf [146,100,98,7,6,5,4,0,1] Z (jn (ae O Z Z (fun hc146 => ?_) (fun hc146 => ?_)))))
 exact absurd (show false = true from hc146) (by decide)
 refine ag (j2 O Z Z (jf [156,100,98,7,6,5,4,0,1] Z (jn (ae O Z Z (fun hc156 => ?_) (fun hc156 => ?_)))))
 exact absurd (show false = true from hc156) (by decide)
 refine ag (j2 O Z Z (jf [172,100,98,7,6,5,4,0,1] Z (jn (ae O Z Z (fun hc172 => ?_) (fun hc172 => ?_)))))
 refine ag (j2 O Z Z (jf [175,100,98,7,6,5,4,0,1] Z (jn (ae O Z Z (fun hc175 => ?_) (fun hc175 => ?_)))))
 refine ag (js O Z (jf [176,100,98,7,6,5,4,0,1] Z (aj O [500,501,502,503] (bin := [f5 3 q, aA (q).vars, aA (q).cells, aA (q).events]) Z Z Z Z (so (r := q) (x := 3) h1 h2) Z Z Z Z Z Z (B0 := 178000) Z Z (ap ?_))))
 refine js O Z (jf [4,100,98,7,6,5,0,1] Z (jr ?_))
 have hrun : aU (.node ⟨6, vr, ev, su, ix, fa⟩ a []) r = (false, { q with out := 3 }) := by rw [bT, if_pos hs1, ← hq]; unfold leaf; rw [if_neg (by decide : ¬ (6 : Int) = 2), if_neg (by decide : ¬ (6 : Int) = 3), if_neg (by decide : ¬ (6 : Int) = 4), if_neg (by decide : ¬ (6 : Int) = 5), if_pos Z, if_pos (bz hc175)]
 refine ⟨.inl Z, _, (am [500,501,502,503] Z Z (e' := [(4, _)]) ⟨Z, trivial⟩ Z).trans (ac 503 504 Z Z), _, Z, ?_, ?_⟩
 rw [hrun]; rfl
 rw [hrun]; rfl
 refine ak (ag (js O Z (jr ?_)))
 have hrun : aU (.node ⟨6, vr, ev, su, ix, fa⟩ a []) r = (true, q) := by rw [bT, if_pos hs1, ← hq]; unfold leaf; rw [if_neg (by decide : ¬ (6 : Int) = 2), if_neg (by decide : ¬ (6 : Int) = 3), if_neg (by decide : ¬ (6 : Int) = 4), if_neg (by decide : ¬ (6 : Int) = 5), if_pos Z, if_neg (cp hc175)]
 refine ⟨.inl Z, _, (am [500,501,502,503] Z Z (e' := [(4, _)]) ⟨Z, trivial⟩ Z).trans (ac 503 504 Z Z), _, Z, ?_, ?_⟩
 rw [hrun]; rfl
 rw [hrun]; rfl
 exact absurd (show true = false from hc172) (by decide)
 exact absurd (show true = false from hc37) (by decide)
theorem w9 {x y : Tr} {r : RS} (hst : aW ⟨7, vr, ev, su, ix, fa⟩ = true) (hr : RSok r) (ihx : ∀ r, RSok r → MQ h1 h2 58 [.c (.pt 0 0 0), .c (.d x.d)] (rH 3 r) (aS (eB (aU x r).1) (rH 4 (aU x r).2))) (ihy : ∀ r, RSok r → MQ h1 h2 58 [.c (.pt 0 0 0), .c (.d y.d)] (rH 3 r) (aS (eB (aU y r).1) (rH 4 (aU y r).2))) : MQ h1 h2 58 [.c (.pt 0 0 0), .c (.d (Tr.d (.node ⟨7, vr, ev, su, ix, fa⟩ a [x, y])))] (rH 3 r) (aS (eB (aU (.node ⟨7, vr, ev, su, ix, fa⟩ a [x, y]) r).1) (rH 4 (aU (.node ⟨7, vr, ev, su, ix, fa⟩ a [x, y]) r).2)) := by
 refine MC.shift 500 Z (jH 219 [500,501,502,503] h1 h2 Tryz.func58 Z Z Z Z fun O hF => ?_)
 refine bK ?_
 have hsf := cn hst
 refine ag (js O Z (bn (j4 O Z Z Z Z (j2 O Z Z (jf [5,4,0,1] Z (jn (ah (ag (j4 O Z Z Z Z (j3 O Z Z Z (jf [19,5,4,0,1] Z (aZ Z (js O Z (aZ Z (js O Z (jf [21,19,5,4,0,1] Z (aZ Z (js O Z (jf [22,19,5,4,0,1] Z (aZ Z (js O Z (jf [23,19,5,4,0,1] Z (aZ Z (js O Z (jf [24,19,5,4,0,1] Z (aZ Z (js O Z (aa (br O Z Z Z Z Z) Z Z Z (js O Z ?_)))))))))))))))))))))))))))))
 refine jf [27,5,4,0,1] Z (aZ Z (js O Z (aZ Z (aj O [500,501,502,503] (bin := [f5 3 r, aA (r).vars, aA (r).cells, aA (r).events]) Z Z Z Z (n3 (r := r) h1 h2 hr.lo (Int.le_trans hr.hi (Int.le_trans hr.fuel (by decide)))) Z Z Z Z Z Z (B0 := 30000) Z Z (ap ?_)))))
 refine jf [29,27,5,4,0,1] Z (aZ Z (js O Z (aa (br O Z Z Z Z Z) Z Z Z (jf [31,5,4,0,1] Z (jn (ae O Z Z (fun hc31 => ?_) (fun hc31 => ?_)))))))
 refine ag (js O Z (jr ?_))
 have hs0 : (aL r).1 = false := by cases h : (aL r).1 with | false => rfl | true => rw [h] at hc31; cases hc31
 have hrun : aU (.node ⟨7, vr, ev, su, ix, fa⟩ a [x, y]) r = (false, (aL r).2) := by rw [dR, if_neg (by decide : ¬ (7 : Int) = 1), if_neg (by rw [hs0]; decide)]
 refine ⟨.inl Z, _, (am [500,501,502,503] Z Z (e' := [(4, _)]) ⟨Z, trivial⟩ Z).trans (ac 503 504 Z Z), _, Z, ?_, ?_⟩
 rw [hrun]; rfl
 rw [hrun]; rfl
 refine ak (ag ?_)
 have hs1 : (aL r).1 = true := by cases h : (aL r).1 with | true => rfl | false => rw [h] at hc31; cases hc31
 have hr1 := hr.step.ok
 obtain ⟨q, hq⟩ : ∃ q, q = (aL r).2 := ⟨_, rfl⟩
 rw [← hq] at hr1 ⊢
 have hnv := hr1.nv
 have hnc := hr1.nc
 refine j2 O Z Z (jn (ah (ag (j4 O Z Z Z Z (j2 O Z Z (jf [37,7,6,5,4,0,1] Z (jn (ae O Z Z (fun hc37 => ?_) (fun hc37 => ?_)))))))))
 refine jw [5,4,0,1] Z (fc O [_,_,_,_,_,_,_,_,_,_,_,_,_,_,_,_] [pn [] 0 0, pn [0] 0 0, pn [0,1] 0 0, pn [0,1,2] 0 0, pn (rg 0 4) 0 0, pn [] 0 0, pe (rg 0 6) 0, pn [] 0 1, pn [7] 0 1, pn [7,8] 0 1, pn [7,8,9] 0 1, pn (rg 7 4) 0 1, pn [] 0 1, pe (rg 0 13) 1, pn (rg 0 14) 2 2, pn (rg 0 15) 2 2] [6,13] [_,_,_] (kc O Z (kc O Z (kc O Z (kc O Z (kc O Z (kc O Z (ai (bL O (B0 := 45000) Z Z Z Z (gF (t := su) (vars := q.vars) h1 h2 hsf.1 hr1.vars) (.cons (.agg (aC Z)) (.cons (.c (.whole Z (by rw [cw]; exact hnv.symm))) .nil)) Z Z Z Z Z) (ai (kc O Z (V O Z)) (ai (kc O Z (V O Z)) (ai (kc O Z (V O Z)) (ai (kc O Z (V O Z)) (ai (kc O Z (V O Z)) (ai (kc O Z (V O Z)) (ai (bL O (B0 := 52000) Z Z Z Z (gF (t := ix) (vars := q.vars) h1 h2 hsf.2 hr1.vars) (.cons (.agg (aC Z)) (.cons (.c (.whole Z (by rw [cw]; exact hnv.symm))) .nil)) Z Z Z Z Z) (kc O Z (kc O Z trivial)))))))))))))))) ?_)
 refine jw [7,6,5,4,0,1] Z (bK ?_)
 refine ah (ag (j4 O Z Z Z Z (j3 O Z Z Z (jf [58,7,6,5,4,0,1] Z (aZ Z (js O Z (aZ Z (js O Z (jf [60,58,7,6,5,4,0,1] Z (aZ Z (js O Z (jf [61,58,7,6,5,4,0,1] Z (aZ Z (js O Z (jf [62,58,7,6,5,4,0,1] Z (aZ Z (js O Z (jf [63,58,7,6,5,4,0,1] Z (aZ Z (js O Z (aa (aG O Z Z Z Z Z) Z Z Z (js O Z (jf [66,7,6,5,4,0,1] Z (AOps.skip Z Z Z Z Z Z (AOps.skip Z Z Z Z Z Z (jf [68,66,7,6,5,4,0,1] Z (AOps.skip Z Z Z Z Z Z (aa (aG O Z Z Z Z Z) Z Z Z (jf [70,7,6,5,4,0,1] Z ?_)))))))))))))))))))))))))))))
 refine jn (ae O Z Z (fun hc70 => ?_) (fun hc70 => ?_))
 exact absurd (show false = true from hc70) (by decide)
 refine ak (ah (ag (j4 O Z Z Z Z (j3 O Z Z Z (jf [79,7,6,5,4,0,1] Z (aZ Z (js O Z (aZ Z (js O Z (jf [81,79,7,6,5,4,0,1] Z (aZ Z (js O Z (jf [82,79,7,6,5,4,0,1] Z (aZ Z (js O Z (jf [83,79,7,6,5,4,0,1] Z (aZ Z (js O Z (jf [84,79,7,6,5,4,0,1] Z (aZ Z (js O Z (aa (aG O Z Z Z Z Z) Z Z Z (js O Z (jf [87,7,6,5,4,0,1] Z (AOps.skip Z Z Z Z Z Z (AOps.skip Z Z Z Z Z Z (jf [89,87,7,6,5,4,0,1] Z (AOps.skip Z Z Z Z Z Z (aa (aG O Z Z Z Z Z) Z Z Z ?_)))))))))))))))))))))))))))))
 refine jf [91,7,6,5,4,0,1] Z (jn (ae O Z Z (fun hc91 => ?_) (fun hc91 => ?_)))
 exact absurd (show false = true from hc91) (by decide)
 refine ak (ah (ag (j4 O Z Z Z Z (js O Z (jf [98,7,6,5,4,0,1] Z (jn (aq (ag (j2 O Z Z (jn (ae O Z Z (fun hc99 => ?_) (fun hc99 => ?_))))))))))))
 exact absurd (show false = true from hc99) (by decide)
 refine ag (j2 O Z Z (jf [119,100,98,7,6,5,4,0,1] Z (jn (ae O Z Z (fun hc119 => ?_) (fun hc119 => ?_)))))
 exact absurd (show false = true from hc119) (by decide)
 refine ag (j2 O Z Z (jf [129,100,98,7,6,5,4,0,1] Z (jn (ae O Z Z (fun hc129 => ?_) (fun hc129 => ?_)))))
 exact absurd (show false = true from hc129) (by decide)
 refine ag (j2 O Z Z (jf [146,100,98,7,6,5,4,0,1] Z (jn (ae O Z Z (fun hc146 => ?_) (fun hc146 => ?_)))))
 exact absurd (show false = true from hc146) (by decide)
 refine ag (j2 O Z Z (jf [156,100,98,7,6,5,4,0,1] Z (jn (ae O Z Z (fun hc156 => ?_) (fun hc156 => ?_)))))
 exact absurd (show false = true from hc156) (by decide)
 refine ag (j2 O Z Z (jf [172,100,98,7,6,5,4,0,1] Z (jn (ae O Z Z (fun hc172 => ?_) (fun hc172 => ?_)))))
 exact absurd (show false = true from hc172) (by decide)
 refine ag (j2 O Z Z (jf [178,100,98,7,6,5,4,0,1] Z (jn (ae O Z Z (fun hc178 => ?_) (fun hc178 => ?_)))))
 refine ah (ag (j2 O Z Z (jf [181,100,98,7,6,5,4,0,1] Z (jn (ae O Z Z (fun hc181 => ?_) (fun hc181 => ?_))))))
 refine ag (j4 O Z Z Z Z (js O Z (aa (bm O Z Z Z Z Z Z Z Z (by simp [Trs.d]) Z) Z Z Z (js O Z (jf [188,182,100,98,7,6,5,4,0,1] Z (aj O [500,501,502,503] (bin := [f5 3 q, aA (q).vars, aA (q).cells, aA (q).events]) Z Z Z Z (ihx q hr1) Z Z Z Z Z Z (B0 := 190000) Z Z (ap ?_)))))))
 refine js O Z (jf [4,100,98,7,6,5,0,1] Z (jr ?_))
 have hrun : aU (.node ⟨7, vr, ev, su, ix, fa⟩ a [x, y]) r = aU x q := by rw [dR, if_neg (by decide : ¬ (7 : Int) = 1), if_pos hs1, ← hq, if_pos (bz hc181)]
 refine ⟨.inl Z, _, (am [500,501,502,190004] Z Z (e' := [(4, _)]) ⟨Z, trivial⟩ Z).trans (ac 190004 504 Z Z), _, Z, ?_, ?_⟩
 rw [hrun]; rfl
 rw [hrun]; rfl
 refine ak (ag (j4 O Z Z Z Z (js O Z (aa (bm O Z Z Z Z Z Z Z Z (by simp [Trs.d]) Z) Z Z Z (js O Z (jf [196,190,100,98,7,6,5,4,0,1] Z (aj O [500,501,502,503] (bin := [f5 3 q, aA (q).vars, aA (q).cells, aA (q).events]) Z Z Z Z (ihy q hr1) Z Z Z Z Z Z (B0 := 198000) Z Z (ap ?_))))))))
 refine js O Z (jf [4,100,98,7,6,5,0,1] Z (jr ?_))
 have hrun : aU (.node ⟨7, vr, ev, su, ix, fa⟩ a [x, y]) r = aU y q := by rw [dR, if_neg (by decide : ¬ (7 : Int) = 1), if_pos hs1, ← hq, if_neg (cp hc181)]
 refine ⟨.inl Z, _, (am [500,501,502,198004] Z Z (e' := [(4, _)]) ⟨Z, trivial⟩ Z).trans (ac 198004 504 Z Z), _, Z, ?_, ?_⟩
 rw [hrun]; rfl
 rw [hrun]; rfl
 exact absurd (show true = false from hc178) (by decide)
 exact absurd (show true = false from hc37) (by decide)
theorem xf {x y : Tr} {r : RS} (hst : aW ⟨1, vr, ev, su, ix, fa⟩ = true) (hr : RSok r) (ihx : ∀ r, RSok r → MQ h1 h2 58 [.c (.pt 0 0 0), .c (.d x.d)] (rH 3 r) (aS (eB (aU x r).1) (rH 4 (aU x r).2))) (ihy : ∀ r, RSok r → MQ h1 h2 58 [.c (.pt 0 0 0), .c (.d y.d)] (rH 3 r) (aS (eB (aU y r).1) (rH 4 (aU y r).2))) (hxo : ∀ r, RSok r → RSle r (aU x r).2) : MQ h1 h2 58 [.c (.pt 0 0 0), .c (.d (Tr.d (.node ⟨1, vr, ev, su, ix, fa⟩ a [x, y])))] (rH 3 r) (aS (eB (aU (.node ⟨1, vr, ev, su, ix, fa⟩ a [x, y]) r).1) (rH 4 (aU (.node ⟨1, vr, ev, su, ix, fa⟩ a [x, y]) r).2)) := by
 refine MC.shift 500 Z (jH 219 [500,501,502,503] h1 h2 Tryz.func58 Z Z Z Z fun O hF => ?_)
 refine bK ?_
 have hsf := cn hst
 refine ag (js O Z (bn (j4 O Z Z Z Z (j2 O Z Z (jf [5,4,0,1] Z (jn (ah (ag (j4 O Z Z Z Z (j3 O Z Z Z (jf [19,5,4,0,1] Z (AOps.skip Z Z Z Z Z Z (AOps.skip Z Z Z Z Z Z (jf [21,19,5,4,0,1] Z (AOps.skip Z Z Z Z Z Z (jf [22,19,5,4,0,1] Z (AOps.skip Z Z Z Z Z Z (jf [23,19,5,4,0,1] Z (AOps.skip Z Z Z Z Z Z (jf [24,19,5,4,0,1] Z (AOps.skip Z Z Z Z Z Z (aa (aG O Z Z Z Z Z) Z Z Z (js O Z (jf [27,5,4,0,1] Z (AOps.skip Z Z Z Z Z Z (AOps.skip Z Z Z Z Z Z (jf [29,27,5,4,0,1] Z (AOps.skip Z Z Z Z Z Z (aa (aG O Z Z Z Z Z) Z Z Z ?_)))))))))))))))))))))))))))))
 refine jf [31,5,4,0,1] Z (jn (ae O Z Z (fun hc31 => ?_) (fun hc31 => ?_)))
 exact absurd (show false = true from hc31) (by decide)
 refine ak (ag (j2 O Z Z (jn (ah (ag (j4 O Z Z Z Z (j2 O Z Z (jf [37,7,6,5,4,0,1] Z (jn (ae O Z Z (fun hc37 => ?_) (fun hc37 => ?_)))))))))))
 exact absurd (show false = true from hc37) (by decide)
 refine ak (ah (ag (j4 O Z Z Z Z (j3 O Z Z Z (jf [58,7,6,5,4,0,1] Z (aZ Z (js O Z (aZ Z (js O Z (jf [60,58,7,6,5,4,0,1] Z (aZ Z (js O Z (jf [61,58,7,6,5,4,0,1] Z (aZ Z (js O Z (jf [62,58,7,6,5,4,0,1] Z (aZ Z (js O Z (jf [63,58,7,6,5,4,0,1] Z (aZ Z (js O Z (aa (aG O Z Z Z Z Z) Z Z Z (js O Z (jf [66,7,6,5,4,0,1] Z (AOps.skip Z Z Z Z Z Z (AOps.skip Z Z Z Z Z Z (jf [68,66,7,6,5,4,0,1] Z (AOps.skip Z Z Z Z Z Z (aa (aG O Z Z Z Z Z) Z Z Z ?_)))))))))))))))))))))))))))))
 refine jf [70,7,6,5,4,0,1] Z (jn (ae O Z Z (fun hc70 => ?_) (fun hc70 => ?_)))
 exact absurd (show false = true from hc70) (by decide)
 refine ak (ah (ag (j4 O Z Z Z Z (j3 O Z Z Z (jf [79,7,6,5,4,0,1] Z (aZ Z (js O Z (aZ Z (js O Z (jf [81,79,7,6,5,4,0,1] Z (aZ Z (js O Z (jf [82,79,7,6,5,4,0,1] Z (aZ Z (js O Z (jf [83,79,7,6,5,4,0,1] Z (aZ Z (js O Z (jf [84,79,7,6,5,4,0,1] Z (aZ Z (js O Z (aa (aG O Z Z Z Z Z) Z Z Z (js O Z (jf [87,7,6,5,4,0,1] Z (AOps.skip Z Z Z Z Z Z (AOps.skip Z Z Z Z Z Z (jf [89,87,7,6,5,4,0,1] Z (AOps.skip Z Z Z Z Z Z (aa (aG O Z Z Z Z Z) Z Z Z ?_)))))))))))))))))))))))))))))
 refine jf [91,7,6,5,4,0,1] Z (jn (ae O Z Z (fun hc91 => ?_) (fun hc91 => ?_)))
 exact absurd (show false = true from hc91) (by decide)
 refine ak (ah (ag (j4 O Z Z Z Z (js O Z (jf [98,7,6,5,4,0,1] Z (jn (aq (ag (j2 O Z Z (jn (ae O Z Z (fun hc99 => ?_) (fun hc99 => ?_))))))))))))
 refine ag (j4 O Z Z Z Z (js O Z (aa (bm O Z Z Z Z Z Z Z Z (by simp [Trs.d]) Z) Z Z Z (js O Z (jf [107,101,100,98,7,6,5,4,0,1] Z (aj O [500,501,502,503] (bin := [f5 3 r, aA (r).vars, aA (r).cells, aA (r).events]) Z Z Z Z (ihx r hr) Z Z Z Z Z Z (B0 := 109000) Z Z (ap ?_)))))))
 refine js O Z ?_
 cases hb110 : (aU x r).1 with
 | true =>
  refine jf [109,100,98,7,6,5,4,0,1] Z (aZ Z (js O Z (aZ Z (js O Z (aZ Z (js O Z (jf [112,110,109,100,98,7,6,5,4,0,1] Z (aZ Z (js O Z (jf [113,110,109,100,98,7,6,5,4,0,1] Z (aZ Z (js O Z (jf [114,110,109,100,98,7,6,5,4,0,1] Z (aZ Z (aa (bm O Z Z Z Z Z Z Z Z (by simp [Trs.d]) Z) Z Z Z (jf [115,110,109,100,98,7,6,5,4,0,1] Z (aZ Z (js O Z (jf [116,110,109,100,98,7,6,5,4,0,1] Z (aZ Z (aj O [500,501,502,109004] (bin := [f5 3 (aU x r).2, aA ((aU x r).2).vars, aA ((aU x r).2).cells, aA ((aU x r).2).events]) Z Z Z Z (ihy (aU x r).2 (hxo r hr).ok) Z Z Z Z Z Z (B0 := 118000) Z Z (ap ?_))))))))))))))))))))))
  refine aa (br O Z Z Z Z Z) Z Z Z (js O Z (jf [4,100,98,7,6,5,0,1] Z (jr ?_)))
  have hrun : aU (.node ⟨1, vr, ev, su, ix, fa⟩ a [x, y]) r = aU y (aU x r).2 := by rw [dR, if_pos Z, if_pos hb110]
  refine ⟨.inl Z, _, (am [500,501,502,118004] Z Z (e' := [(4, _)]) ⟨Z, trivial⟩ Z).trans (ac 118004 504 Z Z), _, Z, ?_, ?_⟩
  rw [hrun]; rfl
  rw [hrun]; rfl
 | false =>
  refine jf [109,100,98,7,6,5,4,0,1] Z (AOps.skip Z Z Z Z Z Z (AOps.skip Z Z Z Z Z Z (AOps.skip Z Z Z Z Z Z (jf [112,110,109,100,98,7,6,5,4,0,1] Z (AOps.skip Z Z Z Z Z Z (jf [113,110,109,100,98,7,6,5,4,0,1] Z (AOps.skip Z Z Z Z Z Z (jf [114,110,109,100,98,7,6,5,4,0,1] Z (AOps.skip Z Z Z Z Z Z (jf [115,110,109,100,98,7,6,5,4,0,1] Z (AOps.skip Z Z Z Z Z Z (jf [116,110,109,100,98,7,6,5,4,0,1] Z (AOps.skip Z Z Z Z Z Z (aa (aG O Z Z Z Z Z) Z Z Z (js O Z (jf [4,100,98,7,6,5,0,1] Z (jr ?_)))))))))))))))))
  have hrun : aU (.node ⟨1, vr, ev, su, ix, fa⟩ a [x, y]) r = (false, (aU x r).2) := by rw [dR, if_pos Z, if_neg (by rw [hb110]; decide)]
  refine ⟨.inl Z, _, (am [500,501,502,109004] Z Z (e' := [(4, _)]) ⟨Z, trivial⟩ Z).trans (ac 109004 504 Z Z), _, Z, ?_, ?_⟩
  rw [hrun]; rfl
  rw [hrun]; rfl
 exact absurd (show true = false from hc99) (by decide)

theorem w8 {x : Tr} {r : RS} (hst : aW ⟨8, vr, ev, su, ix, fa⟩ = true) (hr : RSok r) (ihx : ∀ r, RSok r → MQ h1 h2 58 [.c (.pt 0 0 0), .c (.d x.d)] (rH 3 r) (aS (eB (aU x r).1) (rH 4 (aU x r).2))) (hxo : ∀ r, RSok r → RSle r (aU x r).2) : MQ h1 h2 58 [.c (.pt 0 0 0), .c (.d (Tr.d (.node ⟨8, vr, ev, su, ix, fa⟩ a [x])))] (rH 3 r) (aS (eB (aU (.node ⟨8, vr, ev, su, ix, fa⟩ a [x]) r).1) (rH 4 (aU (.node ⟨8, vr, ev, su, ix, fa⟩ a [x]) r).2)) := by
 refine MC.shift 500 Z (jH 219 [500,501,502,503] h1 h2 Tryz.func58 Z Z Z Z fun O hF => ?_)
 refine bK ?_
 have hsf := cn hst
 have hnv := hr.nv
 refine ag (js O Z (bn (j4 O Z Z Z Z (j2 O Z Z (jf [5,4,0,1] Z (jn (ah (ag (j4 O Z Z Z Z (j3 O Z Z Z (jf [19,5,4,0,1] Z (aZ Z (js O Z (aZ Z (js O Z (jf [21,19,5,4,0,1] Z (aZ Z (js O Z (jf [22,19,5,4,0,1] Z (aZ Z (js O Z (jf [23,19,5,4,0,1] Z (aZ Z (js O Z (jf [24,19,5,4,0,1] Z (aZ Z (js O Z (aa (br O Z Z Z Z Z) Z Z Z (js O Z ?_)))))))))))))))))))))))))))))
 refine jf [27,5,4,0,1] Z (AOps.skip Z Z Z Z Z Z (AOps.skip Z Z Z Z Z Z (jf [29,27,5,4,0,1] Z (AOps.skip Z Z Z Z Z Z (aa (aG O Z Z Z Z Z) Z Z Z (jf [31,5,4,0,1] Z (jn (ae O Z Z (fun hc31 => ?_) (fun hc31 => ?_)))))))))
 exact absurd (show false = true from hc31) (by decide)
 refine ak (ag (j2 O Z Z (jn (ah (ag (j4 O Z Z Z Z (j2 O Z Z (jf [37,7,6,5,4,0,1] Z (jn (ae O Z Z (fun hc37 => ?_) (fun hc37 => ?_)))))))))))
 refine jw [5,4,0,1] Z (fc O [_,_,_,_,_,_,_,_,_,_,_,_,_,_,_,_] [pn [] 0 0, pn [0] 0 0, pn [0,1] 0 0, pn [0,1,2] 0 0, pn (rg 0 4) 0 0, pn [] 0 0, pe (rg 0 6) 0, pn [] 0 1, pn [7] 0 1, pn [7,8] 0 1, pn [7,8,9] 0 1, pn (rg 7 4) 0 1, pn [] 0 1, pe (rg 0 13) 1, pn (rg 0 14) 2 2, pn (rg 0 15) 2 2] [6,13] [_,_,_] (kc O Z (kc O Z (kc O Z (kc O Z (kc O Z (kc O Z (ai (bL O (B0 := 45000) Z Z Z Z (gF (t := su) (vars := r.vars) h1 h2 hsf.1 hr.vars) (.cons (.agg (aC Z)) (.cons (.c (.whole Z (by rw [cw]; exact hnv.symm))) .nil)) Z Z Z Z Z) (ai (kc O Z (V O Z)) (ai (kc O Z (V O Z)) (ai (kc O Z (V O Z)) (ai (kc O Z (V O Z)) (ai (kc O Z (V O Z)) (ai (kc O Z (V O Z)) (ai (bL O (B0 := 52000) Z Z Z Z (gF (t := ix) (vars := r.vars) h1 h2 hsf.2 hr.vars) (.cons (.agg (aC Z)) (.cons (.c (.whole Z (by rw [cw]; exact hnv.symm))) .nil)) Z Z Z Z Z) (kc O Z (kc O Z trivial)))))))))))))))) ?_)
 refine jw [7,6,5,4,0,1] Z (bK ?_)
 refine ah (ag (j4 O Z Z Z Z (j3 O Z Z Z (jf [58,7,6,5,4,0,1] Z (aZ Z (js O Z (aZ Z (js O Z (jf [60,58,7,6,5,4,0,1] Z (aZ Z (js O Z (jf [61,58,7,6,5,4,0,1] Z (aZ Z (js O Z (jf [62,58,7,6,5,4,0,1] Z (aZ Z (js O Z (jf [63,58,7,6,5,4,0,1] Z (aZ Z (js O Z (aa (aG O Z Z Z Z Z) Z Z Z (js O Z (jf [66,7,6,5,4,0,1] Z (AOps.skip Z Z Z Z Z Z (AOps.skip Z Z Z Z Z Z (jf [68,66,7,6,5,4,0,1] Z (AOps.skip Z Z Z Z Z Z (aa (aG O Z Z Z Z Z) Z Z Z (jf [70,7,6,5,4,0,1] Z ?_)))))))))))))))))))))))))))))
 refine jn (ae O Z Z (fun hc70 => ?_) (fun hc70 => ?_))
 exact absurd (show false = true from hc70) (by decide)
 refine ak (ah (ag (j4 O Z Z Z Z (j3 O Z Z Z (jf [79,7,6,5,4,0,1] Z (aZ Z (js O Z (aZ Z (js O Z (jf [81,79,7,6,5,4,0,1] Z (aZ Z (js O Z (jf [82,79,7,6,5,4,0,1] Z (aZ Z (js O Z (jf [83,79,7,6,5,4,0,1] Z (aZ Z (js O Z (jf [84,79,7,6,5,4,0,1] Z (aZ Z (js O Z (aa (aG O Z Z Z Z Z) Z Z Z (js O Z (jf [87,7,6,5,4,0,1] Z (AOps.skip Z Z Z Z Z Z (AOps.skip Z Z Z Z Z Z (jf [89,87,7,6,5,4,0,1] Z (AOps.skip Z Z Z Z Z Z (aa (aG O Z Z Z Z Z) Z Z Z ?_)))))))))))))))))))))))))))))
 refine jf [91,7,6,5,4,0,1] Z (jn (ae O Z Z (fun hc91 => ?_) (fun hc91 => ?_)))
 exact absurd (show false = true from hc91) (by decide)
 refine ak (ah (ag (j4 O Z Z Z Z (js O Z (jf [98,7,6,5,4,0,1] Z (jn (aq (ag (j2 O Z Z (jn (ae O Z Z (fun hc99 => ?_) (fun hc99 => ?_))))))))))))
 exact absurd (show false = true from hc99) (by decide)
 refine ag (j2 O Z Z (jf [119,100,98,7,6,5,4,0,1] Z (jn (ae O Z Z (fun hc119 => ?_) (fun hc119 => ?_)))))
 exact absurd (show false = true from hc119) (by decide)
 refine ag (j2 O Z Z (jf [129,100,98,7,6,5,4,0,1] Z (jn (ae O Z Z (fun hc129 => ?_) (fun hc129 => ?_)))))
 exact absurd (show false = true from hc129) (by decide)
 refine ag (j2 O Z Z (jf [146,100,98,7,6,5,4,0,1] Z (jn (ae O Z Z (fun hc146 => ?_) (fun hc146 => ?_)))))
 exact absurd (show false = true from hc146) (by decide)
 refine ag (j2 O Z Z (jf [156,100,98,7,6,5,4,0,1] Z (jn (ae O Z Z (fun hc156 => ?_) (fun hc156 => ?_)))))
 exact absurd (show false = true from hc156) (by decide)
 refine ag (j2 O Z Z (jf [172,100,98,7,6,5,4,0,1] Z (jn (ae O Z Z (fun hc172 => ?_) (fun hc172 => ?_)))))
 exact absurd (show false = true from hc172) (by decide)
 refine ag (j2 O Z Z (jf [178,100,98,7,6,5,4,0,1] Z (jn (ae O Z Z (fun hc178 => ?_) (fun hc178 => ?_)))))
 exact absurd (show false = true from hc178) (by decide)
 refine ag (j2 O Z Z (jf [198,100,98,7,6,5,4,0,1] Z (jn (ae O Z Z (fun hc198 => ?_) (fun hc198 => ?_)))))
 refine ah (aq (aH (X := Nat × RS) (fun z => ⟨[(0, .c (.pt 500 0 0)), (1, .c (.d (Tr.d (.node ⟨8, vr, ev, su, ix, fa⟩ a [x])))), (5, .c (.rs 501 0 4))], [(500, .box [.rs 501 0 4, .rs 502 0 8, .rs 600 0 z.2.events.length, .d (.int .i64 z.2.fuel), .d (.int .i64 z.2.steps), .d (.int .i64 z.2.out)]), (501, aA z.2.vars), (502, aA z.2.cells), (600, aA z.2.events)]⟩) (fun z => RSok z.2 ∧ (z.2.fuel - z.2.steps).toNat < z.1 ∧ fj ⟨8, vr, ev, su, ix, fa⟩ (aU x) z.1 z.2 = aU (.node ⟨8, vr, ev, su, ix, fa⟩ a [x]) r) (fun z => z.1) ((r.fuel - r.steps).toNat + 1, r) ((am [500,501,502,503] (e' := [(0, _), (1, _), (5, _)]) Z Z ⟨Z, Z, Z, trivial⟩ Z).trans ((ac 503 600 Z Z).trans (Ent.to ⟨Z, Z, Z, trivial⟩ Z))) ?_ (fun z hi => ?_)))
 exact ⟨hr, Nat.lt_succ_self _, tq.symm⟩
 refine ah (ag (js O Z (aj O [500,501,502,600] (bin := [f5 3 z.2, aA (z.2).vars, aA (z.2).cells, aA (z.2).events]) Z Z Z Z (n3 (r := z.2) h1 h2 hi.1.lo (Int.le_trans hi.1.hi (Int.le_trans hi.1.fuel (by decide)))) Z Z Z Z Z Z (B0 := 202000) Z Z (ap ?_))))
 refine jn (ae O Z Z (fun hc201 => ?_) (fun hc201 => ?_))
 refine ak (aq (ah (ag ?_)))
 have hs1 : (aL z.2).1 = true := hc201
 have hr1 := hi.1.step.ok
 have hrs := hi.1.step
 obtain ⟨q, hq⟩ : ∃ q, q = (aL z.2).2 := ⟨_, rfl⟩
 rw [← hq] at hr1 hrs ⊢
 have hne : ¬ z.2.steps = z.2.fuel := fun e => by unfold aL at hs1; rw [if_pos e] at hs1; cases hs1
 have hq2 : q = { z.2 with steps := z.2.steps + 1 } := by rw [hq]; unfold aL; rw [if_neg hne]
 have hnv := hr1.nv
 refine j4 O Z Z Z Z (j2 O Z Z (jf [207,206,201,200,0,1,5] Z (aB O Z Z Z Z (gF (t := su) (vars := q.vars) h1 h2 hsf.1 hr1.vars) (.cons (.agg (aC Z)) (.cons (.c (.whole Z (by rw [cw]; exact hnv.symm))) .nil)) Z Z Z Z Z (B0 := 209000) Z (js O Z (jf [209,201,200,0,1,5] Z (jn (ae O Z Z (fun hc209 => ?_) (fun hc209 => ?_))))))))
 refine ag (js O Z (jr ?_))
 have hrun : aU (.node ⟨8, vr, ev, su, ix, fa⟩ a [x]) r = (true, q) := by
  rw [← hi.2.2]
  obtain ⟨m, hm⟩ : ∃ m, z.1 = m + 1 := ⟨z.1 - 1, by omega⟩
  rw [hm]
  unfold fj
  rw [if_neg hne, ← hq2]
  rw [if_pos (bz (by rw [hq2] at hc209; exact hc209))]
 refine ⟨.inl Z, _, (am [500,501,502,600] Z Z (e' := [(4, _)]) ⟨Z, trivial⟩ Z).trans (ac 600 504 Z Z), _, Z, ?_, ?_⟩
 rw [hrun]; rfl
 rw [hrun]; rfl
 refine ak (ag (j4 O Z Z Z Z (js O Z ?_)))
 have hneg := cp hc209
 refine aa (bm O Z Z Z Z Z Z Z Z (by simp [Trs.d]) Z) Z Z Z (js O Z (jf [216,210,209,201,200,0,1,5] Z (aj O [500,501,502,600] (bin := [f5 3 q, aA (q).vars, aA (q).cells, aA (q).events]) Z Z Z Z (ihx q hr1) Z Z Z Z Z Z (B0 := 218000) Z Z (ap ?_))))
 refine js O Z (jf [218,209,201,200,0,1,5] Z (jn (ae O Z Z (fun hc218 => ?_) (fun hc218 => ?_))))
 refine ag (js O Z (jr ?_))
 have hrun : aU (.node ⟨8, vr, ev, su, ix, fa⟩ a [x]) r = (false, (aU x q).2) := by
  have hb218 : (aU x q).1 = false := by cases h : (aU x q).1 with | false => rfl | true => rw [h] at hc218; cases hc218
  rw [← hi.2.2]
  obtain ⟨m, hm⟩ : ∃ m, z.1 = m + 1 := ⟨z.1 - 1, by omega⟩
  rw [hm]
  unfold fj
  rw [if_neg hne, ← hq2]
  rw [if_neg (cp (by rw [hq2] at hc209; exact hc209)), if_neg (by rw [hb218]; decide)]
 refine ⟨.inl Z, _, (am [500,501,502,218004] Z Z (e' := [(4, _)]) ⟨Z, trivial⟩ Z).trans (ac 218004 504 Z Z), _, Z, ?_, ?_⟩
 rw [hrun]; rfl
 rw [hrun]; rfl
 refine ak ?_
 have hb : (aU x q).1 = true := by cases h : (aU x q).1 with | true => rfl | false => rw [h] at hc218; cases hc218
 have hxq := hxo q hr1
 refine ⟨(z.1 - 1, (aU x q).2), (am [500,501,502,218004] (e' := [(0, _), (1, _), (5, _)]) Z Z ⟨Z, Z, Z, trivial⟩ Z).trans ((ac 218004 600 Z Z).trans (Ent.to ⟨Z, Z, Z, trivial⟩ Z)), ⟨hxq.ok, ?_, ?_⟩, ?_⟩
 have h4 := hi.1.hi; have h5 := hxq.ok.hi; have h6 := hxq.fuel; have h7 := hxq.steps; have h8 : q.steps = z.2.steps + 1 := by rw [hq2]
 have h9 : q.fuel = z.2.fuel := by rw [hq2]
 show ((aU x q).2.fuel - (aU x q).2.steps).toNat < z.1 - 1; have := hi.2.1; have h3 : z.2.steps < z.2.fuel := by omega
 omega
 rw [← hi.2.2]
 obtain ⟨m, hm⟩ : ∃ m, z.1 = m + 1 := ⟨z.1 - 1, by omega⟩
 rw [hm]
 show fj _ _ m _ = _
 conv => rhs; unfold fj
 rw [if_neg hne, ← hq2]
 rw [if_neg (by rw [hq2] at hneg; exact hneg), if_pos hb]
 show z.1 - 1 < z.1; have := hi.2.1; omega
 refine bH (ag (js O Z (jr ?_)))
 have hrun : aU (.node ⟨8, vr, ev, su, ix, fa⟩ a [x]) r = (false, (aL z.2).2) := by
  have hs1 : (aL z.2).1 = false := hc201
  rw [← hi.2.2]
  obtain ⟨m, hm⟩ : ∃ m, z.1 = m + 1 := ⟨z.1 - 1, by omega⟩
  rw [hm]
  unfold fj
  have he : z.2.steps = z.2.fuel := Decidable.byContradiction fun h => by unfold aL at hs1; rw [if_neg h] at hs1; cases hs1
  rw [if_pos he, aL, if_pos he]
 refine ⟨.inl Z, _, (am [500,501,502,600] Z Z (e' := [(4, _)]) ⟨Z, trivial⟩ Z).trans (ac 600 504 Z Z), _, Z, ?_, ?_⟩
 rw [hrun]; rfl
 rw [hrun]; rfl
 exact absurd (show true = false from hc198) (by decide)
 exact absurd (show true = false from hc37) (by decide)
mutual
/-- Each element is valid, and has the statements behind it that it c5. -/
def Tr.ok : Tr → Prop
  | .node s _ ks => aW s = true ∧ (ks.length : Int) = aN s.kind ∧ Trs.ok ks
def Trs.ok : List Tr → Prop
  | [] => True
  | t :: r => t.ok ∧ Trs.ok r
end
theorem RSle.trans {a b c : RS} (h : RSle a b) (h' : RSle b c) : RSle a c := ⟨h'.ok, h'.fuel.trans h.fuel, Int.le_trans h.steps h'.steps⟩
theorem RSok.out {r : RS} (h : RSok r) (x : Int) : RSle r { r with out := x } := ⟨⟨h.vars, h.cells, h.lo, h.hi, h.fuel, h.events⟩, rfl, Int.le_refl _⟩
theorem uH {s : Sm} {r q : RS} (h : RSok r) (hq : q = (aL r).2) (hs : (aL r).1 = true) : RSle r (leaf s q).2 := by
 have h1 := h.step
 have hne : ¬ r.steps = r.fuel := fun e => by unfold aL at hs; rw [if_pos e] at hs; cases hs
 have hq2 : q = { r with steps := r.steps + 1 } := by rw [hq]; unfold aL; rw [if_neg hne]
 rw [← hq] at h1
 have h2 := h1.ok
 have key : ∀ q' : RS, RSok q' → q'.fuel = q.fuel → q'.steps = q.steps → RSle r q' := fun q' a b c => ⟨a, b.trans h1.fuel, by rw [c]; exact h1.steps⟩
 unfold leaf
 split
 split
 rename_i hb; exact key _ ⟨nz h2.vars hb, h2.cells, h2.lo, h2.hi, h2.fuel, h2.events⟩ Z Z
 exact key _ (h2.out 4).ok Z Z
 split
 split
 rename_i hb
 have hc := dV h2.cells
 have hi : (aT s.index q.vars).toNat < q.cells.length := by
  have := hc.2
  simp only [eL, bM, decide_eq_true_eq] at hb
  omega
 refine key _ ⟨nz h2.vars ?_, h2.cells, h2.lo, h2.hi, h2.fuel, h2.events⟩ Z Z
 rw [aM hi]
 exact List.all_eq_true.1 hc.1 _ (List.getElem_mem hi)
 exact key _ (h2.out 2).ok Z Z
 split
 split
 split
 rename_i hb; exact key _ ⟨h2.vars, nz h2.cells hb, h2.lo, h2.hi, h2.fuel, h2.events⟩ Z Z
 exact key _ (h2.out 4).ok Z Z
 exact key _ (h2.out 2).ok Z Z
 split
 refine ⟨⟨h2.vars, h2.cells, h2.lo, h2.hi, h2.fuel, ?_⟩, h1.fuel, h1.steps⟩
 have := h.events
 show ((q.events ++ [s.event]).length : Int) ≤ q.steps
 rw [hq2]; simp; omega
 split
 split
 exact key _ (h2.out 3).ok Z Z
 exact h1
 exact h1
theorem od {s : Sm} {f : RS → Bool × RS} (hf : ∀ r, RSok r → RSle r (f r).2) : ∀ {m : Nat} {r : RS}, RSok r → RSle r (fj s f m r).2
 | 0, r, h => h.out 1
 | m + 1, r, h => by
  unfold fj
  split
  exact h.out 1
  rename_i hne
  have h1 := h.step
  unfold aL at h1
  rw [if_neg hne] at h1
  split
  exact h1
  split
  exact h1.trans ((hf _ h1.ok).trans (od hf (hf _ h1.ok).ok))
  exact h1.trans (hf _ h1.ok)
theorem il : ∀ {t : Tr}, t.ok → ∀ {r : RS}, RSok r → RSle r (aU t r).2
 | .node s a [x, y], ht, r, h => by
  have hx : ∀ r, RSok r → RSle r (aU x r).2 := fun r hr => il ht.2.2.1 hr
  have hy : ∀ r, RSok r → RSle r (aU y r).2 := fun r hr => il ht.2.2.2.1 hr
  rw [dR]
  split
  split
  exact (hx r h).trans (hy _ (hx r h).ok)
  exact hx r h
  split
  split
  exact h.step.trans (hx _ h.step.ok)
  exact h.step.trans (hy _ h.step.ok)
  exact h.step
 | .node s a [x], ht, r, h => by rw [tq]; exact od (fun r hr => il ht.2.2.1 hr) h
 | .node s a [], ht, r, h => by
  rw [bT]
  split
  rename_i hs; exact uH h Z hs
  exact h.step
 | .node s a (x :: y :: z :: ks), ht, r, h => by
  have h1 : ((x :: y :: z :: ks).length : Int) = aN s.kind := ht.2.1
  have h2 := (b0 s.kind).2
  simp only [iX] at h1
  omega
theorem rL {k : Int} (h : aN k = 2) : k = 1 ∨ k = 7 := by
 unfold aN at h
 split at h
 exact .inl ‹_›
 split at h
 exact .inr ‹_›
 split at h <;> simp at h
theorem rM {k : Int} (h : aN k = 1) : k = 8 := by
 unfold aN at h
 split at h
 simp at h
 split at h
 simp at h
 split at h
 assumption
 simp at h
theorem qh {s : Sm} (hs : aW s = true) (h : aN s.kind = 0) : s.kind = 0 ∨ s.kind = 2 ∨ s.kind = 3 ∨ s.kind = 4 ∨ s.kind = 5 ∨ s.kind = 6 := by
 have h8 : 0 ≤ s.kind ∧ s.kind ≤ 8 := by
  unfold aW m6 at hs
  cases h1 : (decide (0 ≤ s.kind) && decide (s.kind ≤ 8)) with
  | true => simpa using h1
  | false => rw [h1] at hs; simp at hs
 have a1 : s.kind ≠ 1 := fun e => by rw [e] at h; cases h
 have a2 : s.kind ≠ 7 := fun e => by rw [e] at h; cases h
 have a3 : s.kind ≠ 8 := fun e => by rw [e] at h; cases h
 omega
theorem uj {L : Nat} (h1 : 4096 ≤ L) (h2 : L ≤ 1073741824) : ∀ {t : Tr}, t.ok → ∀ {r : RS}, RSok r → MC Tryz.prog L 58 [.c (.pt 0 0 0), .c (.d t.d)] (rH 3 r) (aS (eB (aU t r).1) (rH 4 (aU t r).2))
 | .node s a [x, y], ht, r, h => by
  have ihx : ∀ r, RSok r → MC Tryz.prog L 58 [.c (.pt 0 0 0), .c (.d x.d)] (rH 3 r) (aS (eB (aU x r).1) (rH 4 (aU x r).2)) := fun r hr => uj h1 h2 ht.2.2.1 hr
  have ihy : ∀ r, RSok r → MC Tryz.prog L 58 [.c (.pt 0 0 0), .c (.d y.d)] (rH 3 r) (aS (eB (aU y r).1) (rH 4 (aU y r).2)) := fun r hr => uj h1 h2 ht.2.2.2.1 hr
  obtain ⟨k, vr, ev, su, ix, fa⟩ := s
  have hk : aN k = 2 := ht.2.1.symm
  rcases rL hk with rfl | rfl
  exact xf h1 h2 ht.1 h ihx ihy (fun r hr => il ht.2.2.1 hr)
  exact w9 h1 h2 ht.1 h ihx ihy
 | .node s a [x], ht, r, h => by
  have ihx : ∀ r, RSok r → MC Tryz.prog L 58 [.c (.pt 0 0 0), .c (.d x.d)] (rH 3 r) (aS (eB (aU x r).1) (rH 4 (aU x r).2)) := fun r hr => uj h1 h2 ht.2.2.1 hr
  obtain ⟨k, vr, ev, su, ix, fa⟩ := s
  have hk : aN k = 1 := ht.2.1.symm
  obtain rfl := rM hk
  exact w8 h1 h2 ht.1 h ihx (fun r hr => il ht.2.2.1 hr)
 | .node s a [], ht, r, h => by
  obtain ⟨k, vr, ev, su, ix, fa⟩ := s
  have hk : aN k = 0 := ht.2.1.symm
  have := qh ht.1 hk
  simp only at this
  rcases this with rfl | rfl | rfl | rfl | rfl | rfl
  exact xg h1 h2 ht.1 h
  exact xe h1 h2 ht.1 h
  exact xd h1 h2 ht.1 h
  exact xc h1 h2 ht.1 h
  exact xb h1 h2 ht.1 h
  exact xa h1 h2 ht.1 h
 | .node s a (x :: y :: z :: ks), ht, r, h => by
  have h1 : ((x :: y :: z :: ks).length : Int) = aN s.kind := ht.2.1
  have h2 := (b0 s.kind).2
  simp only [iX] at h1
  omega
theorem jM {f : Nat → Option (Tr × Nat)} (hf : ∀ k t k', f k = some (t, k') → t.ok) : ∀ {q k ts k'}, ci f q k = some (ts, k') → ts.length = q ∧ Trs.ok ts
 | 0, k, ts, k', h => by simp only [ci, eg, Prod.mk.injEq] at h; rw [← h.1]; exact ⟨rfl, trivial⟩
 | q + 1, k, ts, k', h => by
  cases hx : f k with
  | none => rw [dh hx] at h; cases h
  | some x =>
   obtain ⟨t, k1⟩ := x
   rw [cM hx] at h
   simp only [Option.map_eq_some_iff] at h
   obtain ⟨⟨ts1, k2⟩, h1, h2⟩ := h
   simp only [Prod.mk.injEq] at h2
   obtain ⟨h3, h4⟩ := jM hf h1
   rw [← h2.1]
   exact ⟨by simp [h3], hf k t k1 hx, h4⟩
theorem jG : ∀ {n body k t k'}, cb n body k = some (t, k') → t.ok
 | 0, _, _, _, _, h => by cases h
 | n + 1, body, k, t, k', h => by
  unfold cb at h
  split at h
  cases h
  split at h
  cases h
  rename_i hk
  simp only [Option.map_eq_some_iff] at h
  obtain ⟨⟨ts1, k2⟩, h1, h2⟩ := h
  simp only [Prod.mk.injEq] at h2
  obtain ⟨h3, h4⟩ := jM (fun k t k' h => jG h) h1
  rw [← h2.1]
  have hs : aW (body.getD k default) = true := by
   cases hb : aW (body.getD k default) with
   | true => rfl
   | false => unfold bQ at hk; rw [hb] at hk; exact absurd (by rw [if_neg (by decide)]; decide) hk
  refine ⟨hs, ?_, h4⟩
  rw [h3]
  unfold bQ
  rw [if_pos hs]
  have := (b0 (body.getD k default).kind).1
  omega
theorem lD {body : List Sm} (h : po body = true) : ∃ t, vJ body = some (t, body.length) ∧ t.ok ∧ t8 body = t.d := by
 unfold po at h
 split at h
 cases h
 rename_i h30
 simp only [bM, decide_eq_true_eq] at h
 obtain ⟨t, k, hk⟩ := qO h.1
 have h2 := h.2
 rw [hk] at h2
 simp only [Int.ofNat_inj, Int.natCast_inj] at h2
 subst h2
 exact ⟨t, hk, jG hk, by unfold t8; rw [if_neg h30, hk]⟩
def gG (body : List Sm) : Tr := match vJ body with | some (t, _) => t | none => .node default 0 []
def r0 (s : Sx) (f : Int) : RS := ⟨s.vars, s.cells, [], f, 0, 0⟩
theorem vi {s : Sx} {f : Int} (hs : sa s = true) (hf : eL 0 2000 f = true) : RSok (r0 s f) := by
 unfold sa at hs
 simp only [bM] at hs
 simp only [eL, bM, decide_eq_true_eq] at hf
 exact ⟨hs.1, hs.2, Int.le_refl _, hf.1, hf.2, by simp [r0]⟩
theorem lT {body : List Sm} (h : po body = true) : (gG body).ok ∧ t8 body = (gG body).d := by
 obtain ⟨t, h1, h2, h3⟩ := lD h
 unfold gG; rw [h1]; exact ⟨h2, h3⟩
theorem Am {f : Int} (hp : eN p = true) (hs : sa s = true) (hf : eL 0 2000 f = true) : MQ h1 h2 29 [lc p, vM s, eI f] [] (aS (.tup [.c (.pt 0 0 0), eB true]) (rH 3 (aU (gG p.body) (r0 s f)).2)) := by
 refine jB 39 h1 h2 Tryz.func29 Z Z Z fun O hF => ?_
 have htb : po p.body = true := by unfold eN at hp; simp only [bM] at hp; exact hp.1
 obtain ⟨hto, htd⟩ := lT htb
 have hr0 := vi hs hf
 have h4 : s.vars.length = 4 := hr0.nv
 have h8 : s.cells.length = 8 := hr0.nc
 refine ag (jx O Z (ap ?_))
 refine jf [3,1,2] Z (jx O Z (ap ?_))
 refine j2 O Z Z (jn (ah (ag (js O Z (aB O Z Z Z Z (yi h1 h2) (af Z) Z Z Z Z Z (B0 := 13000) Z (j2 O Z Z (jf [14,7,6,4,3,1,2] Z (aw 3 Z Z Z (fun hx => ab hx Z Z Z (V O Z) Z Z ( bG O hx Z Z Z Z (AH h1 h2) (af Z) Z Z Z Z Z Z Z (B0 := 17000) Z ( ab hx Z Z Z (V O Z) Z Z ( AN.nil)))) Z Z (aa (bi O Z Z Z Z Z) Z Z Z (js O Z (jf [19,7,6,4,3,1,2] Z (aw 3 Z Z Z (fun hx => ab hx Z Z Z (V O Z) Z Z ( bG O hx Z Z Z Z (n4 h1 h2) (af Z) Z Z Z Z Z Z Z (B0 := 22000) Z ( ab hx Z Z Z (V O Z) Z Z ( AN.nil)))) Z Z (aa (bi O Z Z Z Z Z) Z Z Z (jf [23,7,6,4,3,1,2] Z (jn (ae O Z Z (fun hc23 => ?_) (fun hc23 => ?_)))))))))))))))))
 exact absurd hc23 (by rw [hp, hs, hf]; decide)
 refine ak (ag (j2 O Z Z (jf [26,7,6,4,3,1,2] Z (ay O Z Z Z Z (v9 h1 h2) (af Z) Z Z Z Z (B0 := 28000) Z Z ?_))))
 rw [htd]
 refine j4 O Z Z Z Z (js O Z (jf [8,7,6,4,3,1,2] Z (bn (js O Z (c7 O (B0 := 32000) Z Z Z Z (AF (v := s.vars) (c := s.cells) h1 h2) (af Z) Z Z Z Z Z Z ?_)))))
 rw [h4, h8]
 refine ap ?_
 refine j2 O Z Z (jf [33,8,7,6,4,3,1,2] Z (jx O Z (au (cK 34 35000 1 true 2 Z Z Z) (ap ?_))))
 refine ap ?_
 refine js O Z (jf [10,8,7,6,4,3,1,2] Z (bn (j2 O Z Z (jf [36,35,10,7,6,4,3,1,2] Z (aj O [34,32000,32001,35000] (bin := [f5 3 (r0 s f), aA s.vars, aA s.cells, aA []]) Z Z Z Z (uj h1 h2 hto hr0) Z Z Z Z Z Z (B0 := 38000) Z Z (ap ?_))))))
 refine jf [10,7,6,4,3,1,2] Z (bn (j3 O Z Z Z (jr ?_)))
 refine ⟨.inl Z, _, (am [34,32000,32001,38004] (e' := [(6, _), (7, _)]) Z Z ⟨Z, Z, trivial⟩ Z).trans ((ac 34 0 Z Z).trans ((ac 32000 1 Z Z).trans ((ac 32001 2 Z Z).trans (ac 38004 3 Z Z)))), _, Z, Z, Z⟩
theorem AE {f : Int} (hp : eN p = true) (hs : sa s = true) (hf : eL 0 2000 f = true) : MQ h1 h2 10 [lc p, vM s, eI f] [] (Rows (.tup [.agg [.rs 0 0 4, .rs 1 0 8], .c (.rs 2 0 (aU (gG p.body) (r0 s f)).2.events.length), eI (aU (gG p.body) (r0 s f)).2.out, eB true]) [aA (aU (gG p.body) (r0 s f)).2.vars, aA (aU (gG p.body) (r0 s f)).2.cells, aA (aU (gG p.body) (r0 s f)).2.events]) := by
 refine db (jB 34 h1 h2 Tryz.func10 Z Z Z fun O hF => ?_)
 refine ag (jx O Z (ap ?_))
 refine jf [3,1,2] Z (jx O Z (ap ?_))
 refine jf [4,3,2] Z (jl O Z (ap ?_))
 refine j3 O Z Z Z (bn (j3 O Z Z Z (jf [15,14,13,9,8,7,6] Z (rV O Z Z Z Z (Am (p := p) (s := s) (f := f) h1 h2 hp hs hf) (af Z) Z Z Z Z (B0 := 17000) Z (ap ?_)))))
 refine j4 O Z Z Z Z (js O Z (jf [11,10,9,8,7,6] Z (jn (ah (ag (j2 O Z Z (jf [20,10,9,8,7,6] Z (jn (ae O Z Z (fun hc20 => ?_) (fun hc20 => ?_))))))))))
 exact absurd hc20 (by decide)
 refine ak (ah (jw [10,6] Z (fc O [_,_,_,_,_,_,_,_,_,_,_,_,_,_,_,_] [pn [] 0 0, pn [0] 0 0, pn [0,1] 0 0, pn [0,1,2] 0 0, pn [] 0 1, pn [4] 0 1, pn [4,5] 0 1, pn [4,5,6] 0 1, pn [] 0 1, pn [8] 0 1, pn [8,9] 0 1, pn [8,9,10] 0 1, pe (rg 0 4) 0, pn (rg 0 8++[12]) 1 1, pn (rg 0 14) 1 1, pn (rg 0 15) 1 1] [12] [_,_] (kc O Z (kc O Z (kc O Z (kc O Z (ai (kc O Z (V O Z)) (ai (kc O Z (V O Z)) (ai (kc O Z (V O Z)) (ai (kc O Z (V O Z)) (ai (kc O Z (V O Z)) (ai (kc O Z (V O Z)) (ai (kc O Z (V O Z)) (ai (kc O Z (V O Z)) (ai (eS O Z Z Z) (kc O Z (kc O Z (kc O Z trivial)))))))))))))))) ?_)))
 refine ff ?_
 refine ⟨.inl Z, _, av, _, Z, [17001,17002,17003], by decide, Z, Z, Z⟩
structure Rs where
  v : List Int
  c : List Int
  ev : List Int
  out : Int
  st : Int
structure Cf where
  n : Nat
  ws : List Nat
  v : List Int
  c : List Int
  ev : List Int
  st : Int
theorem rJ {b : List Sm} (h : gx b = true) : 1 ≤ b.length ∧ b.length ≤ 30 ∧ b.all aW = true ∧ kW b 0 = b.length := by
 unfold gx at h; simp only [bM, decide_eq_true_eq] at h
 exact ⟨by omega, by omega, h.2.1, h.2.2⟩

theorem gZ {f g : Nat → Option (Tr × Nat)} {k0 : Nat} (h : ∀ j, k0 ≤ j → f j = g j) (hf : ∀ k t k', f k = some (t, k') → k < k') : ∀ {q k : Nat}, k0 ≤ k → ci f q k = ci g q k
 | 0, _, _ => rfl
 | q + 1, k, hk => by
  cases hx : f k with
  | none => rw [dh hx, dh (by rw [← h k hk]; exact hx)]
  | some x =>
   obtain ⟨t, k1⟩ := x
   have := hf k t k1 hx
   rw [cM hx, cM (by rw [← h k hk]; exact hx), gZ h hf (by omega)]
theorem iw {n : Nat} {body : List Sm} {k : Nat} (h : body.length ≤ k) : cb n body k = none := by
 cases n with
 | zero => rfl
 | succ n => unfold cb; rw [if_pos h]
theorem lU : ∀ {n m : Nat} {body : List Sm} {k : Nat}, body.length < n + k → body.length < m + k → cb n body k = cb m body k
 | 0, m, body, k, h1, h2 => by rw [iw (by omega), iw (by omega)]
 | n + 1, 0, body, k, h1, h2 => by rw [iw (by omega), iw (by omega)]
 | n + 1, m + 1, body, k, h1, h2 => by
  unfold cb
  rw [gZ (f := cb n body) (g := cb m body) (k0 := k + 1) (fun j hj => lU (by omega) (by omega)) (fun k t k' h => (fw h).1) (cN _)]
def bR (body : List Sm) (k : Nat) : Option (Tr × Nat) := cb (body.length + 1) body k
theorem ke {body : List Sm} {k : Nat} : bR body k = if body.length ≤ k then none else if bQ (body.getD k default) < 0 then none else (ci (bR body) (bQ (body.getD k default)).toNat (k + 1)).map fun r => (.node (body.getD k default) k r.1, r.2) := by
 unfold bR
 show (if body.length ≤ k then none else if bQ (body.getD k default) < 0 then none else (ci (cb body.length body) (bQ (body.getD k default)).toNat (k + 1)).map fun r => (Tr.node (body.getD k default) k r.1, r.2)) = _
 rw [gZ (f := cb body.length body) (g := cb (body.length + 1) body) (k0 := k + 1) (fun j hj => lU (by omega) (by omega)) (fun k t k' h => (fw h).1) (cN _)]
theorem ga {body : List Sm} {k k' : Nat} {t : Tr} (h : bR body k = some (t, k')) : k < k' ∧ k' ≤ body.length := fw h
theorem bI {body : List Sm} {k k' : Nat} {s : Sm} {a : Int} {ks : List Tr} (h : bR body k = some (.node s a ks, k')) :
    k < body.length ∧ s = body.getD k default ∧ aW s = true ∧ ci (bR body) ks.length (k + 1) = some (ks, k') ∧ (ks.length : Int) = aN s.kind := by
 rw [ke] at h
 split at h
 cases h
 split at h
 cases h
 rename_i h1 h2
 simp only [Option.map_eq_some_iff] at h
 obtain ⟨⟨ts, k2⟩, h3, h4⟩ := h
 simp only [Prod.mk.injEq, Tr.node.injEq] at h4
 obtain ⟨⟨h5, _, h6⟩, h7⟩ := h4
 subst h6; subst h7; subst h5
 have h8 := (jM (fun k t k' h => jG h) h3).1
 have hs : aW (body.getD k default) = true := by
  cases hb : aW (body.getD k default) with
  | true => rfl
  | false => unfold bQ at h2; rw [hb] at h2; exact absurd (by rw [if_neg (by decide)]; decide) h2
 refine ⟨by omega, Z, hs, by rw [h8]; exact h3, ?_⟩
 rw [h8]
 unfold bQ
 rw [if_pos hs]
 have := (b0 (body.getD k default).kind).1
 omega
theorem kn {body : List Sm} {k : Nat} (hk : k < body.length) {n : Int} (hn : 0 < n) : dc (body.drop k) n = (dc (body.drop (k + 1)) (n - 1 + aN (body.getD k default).kind)).map (· + 1) := by
 rw [oN hn hk, show n + (aN (body.getD k default).kind - 1) = n - 1 + aN (body.getD k default).kind by omega]
theorem mO {body : List Sm} {f : Nat → Option (Tr × Nat)} (hf : ∀ k t k', f k = some (t, k') → k < k' ∧ ∀ n : Int, 0 ≤ n → dc (body.drop k) (n + 1) = (dc (body.drop k') n).map (· + (k' - k))) :
    ∀ {q k : Nat} {ts : List Tr} {k' : Nat}, ci f q k = some (ts, k') → k ≤ k' ∧ ∀ n : Int, 0 ≤ n → dc (body.drop k) (n + q) = (dc (body.drop k') n).map (· + (k' - k))
 | 0, k, ts, k', h => by
  simp only [ci, eg, Prod.mk.injEq] at h
  rw [← h.2]
  refine ⟨cN _, fun n hn => ?_⟩
  rw [show n + ((0 : Nat) : Int) = n by omega]
  simp
 | q + 1, k, ts, k', h => by
  cases hx : f k with
  | none => rw [dh hx] at h; cases h
  | some x =>
   obtain ⟨t, k1⟩ := x
   rw [cM hx] at h
   simp only [Option.map_eq_some_iff] at h
   obtain ⟨⟨ts1, k2⟩, h1, h2⟩ := h
   simp only [Prod.mk.injEq] at h2
   obtain ⟨_, rfl⟩ := h2
   obtain ⟨h3, h4⟩ := hf k t k1 hx
   obtain ⟨h5, h6⟩ := mO hf h1
   refine ⟨by omega, fun n hn => ?_⟩
   rw [show n + ((q + 1 : Nat) : Int) = (n + q) + 1 by omega, h4 _ (by omega), h6 n hn, Option.map_map]
   exact congrArg (fun g => Option.map g _) (funext fun x => by simp; omega)
theorem km {body : List Sm} : ∀ {n k : Nat} {t : Tr} {k' : Nat}, cb n body k = some (t, k') → k < k' ∧ ∀ m : Int, 0 ≤ m → dc (body.drop k) (m + 1) = (dc (body.drop k') m).map (· + (k' - k))
 | 0, _, _, _, h => by cases h
 | n + 1, k, t, k', h => by
  unfold cb at h
  split at h
  cases h
  split at h
  cases h
  rename_i h1 h2
  simp only [Option.map_eq_some_iff] at h
  obtain ⟨⟨ts, k2⟩, h3, h4⟩ := h
  simp only [Prod.mk.injEq] at h4
  obtain ⟨_, rfl⟩ := h4
  obtain ⟨h5, h6⟩ := mO (body := body) (fun k t k' h => km h) h3
  have hs : aW (body.getD k default) = true := by
   cases hb : aW (body.getD k default) with
   | true => rfl
   | false => unfold bQ at h2; rw [hb] at h2; exact absurd (by rw [if_neg (by decide)]; decide) h2
  have hkf : bQ (body.getD k default) = aN (body.getD k default).kind := by unfold bQ; rw [if_pos hs]
  have hb := (b0 (body.getD k default).kind).1
  refine ⟨by omega, fun m hm => ?_⟩
  have h7 := h6 m hm
  rw [hkf] at h7
  rw [kn (by omega) (by omega), show m + 1 - 1 + aN (body.getD k default).kind = m + ((aN (body.getD k default).kind).toNat : Int) by omega, h7, Option.map_map]
  exact congrArg (fun g => Option.map g _) (funext fun x => by simp; omega)
theorem rC {body : List Sm} {k k' : Nat} {t : Tr} (h : bR body k = some (t, k')) : kW body k = k' := by
 obtain ⟨h1, h2⟩ := km h
 have h3 := h2 0 (Int.le_refl _)
 unfold kW
 rw [show (1 : Int) = 0 + 1 from Z, h3, f8 (Int.le_refl _)]
 show (k : Int) + ((0 + (k' - k) : Nat) : Int) = k'
 omega
theorem ol {body : List Sm} : ∀ {n k : Nat} {t : Tr} {k' : Nat}, cb n body k = some (t, k') → ∀ j, k ≤ j → j < k' → aW (body.getD j default) = true
 | 0, _, _, _, h => by cases h
 | n + 1, k, t, k', h => by
  unfold cb at h
  split at h
  cases h
  split at h
  cases h
  rename_i h1 h2
  simp only [Option.map_eq_some_iff] at h
  obtain ⟨⟨ts, k2⟩, h3, h4⟩ := h
  simp only [Prod.mk.injEq] at h4
  obtain ⟨_, rfl⟩ := h4
  have hs : aW (body.getD k default) = true := by
   cases hb : aW (body.getD k default) with
   | true => rfl
   | false => unfold bQ at h2; rw [hb] at h2; exact absurd (by rw [if_neg (by decide)]; decide) h2
  have key : ∀ {q k : Nat} {ts : List Tr} {k' : Nat}, ci (cb n body) q k = some (ts, k') → ∀ j, k ≤ j → j < k' → aW (body.getD j default) = true := by
   intro q
   induction q with
   | zero => intro k ts k' h j h1 h2; simp only [ci, eg, Prod.mk.injEq] at h; omega
   | succ q ih =>
    intro k ts k' h j h1 h2
    cases hx : cb n body k with
    | none => rw [dh hx] at h; cases h
    | some x =>
     obtain ⟨t, k1⟩ := x
     rw [cM hx] at h
     simp only [Option.map_eq_some_iff] at h
     obtain ⟨⟨ts1, k2⟩, h3, h4⟩ := h
     simp only [Prod.mk.injEq] at h4
     obtain ⟨_, rfl⟩ := h4
     by_cases hj : j < k1
     exact ol hx j h1 hj
     exact ih h3 j (by omega) h2
  intro j hj1 hj2
  by_cases e : j = k
  rw [e]; exact hs
  exact key h3 j (by omega) hj2
theorem mM {f : Nat → Option (Tr × Nat)} : ∀ {a b k : Nat} {ts : List Tr} {k' : Nat}, ci f (a + b) k = some (ts, k') → ∃ ts1 k1 ts2, ci f a k = some (ts1, k1) ∧ ci f b k1 = some (ts2, k')
 | 0, b, k, ts, k', h => ⟨[], k, ts, rfl, by rwa [Nat.zero_add] at h⟩
 | a + 1, b, k, ts, k', h => by
  rw [show a + 1 + b = (a + b) + 1 by omega] at h
  cases hx : f k with
  | none => rw [dh hx] at h; cases h
  | some x =>
   obtain ⟨t, k1⟩ := x
   rw [cM hx] at h
   simp only [Option.map_eq_some_iff] at h
   obtain ⟨⟨ts1, k2⟩, h3, h4⟩ := h
   simp only [Prod.mk.injEq] at h4
   obtain ⟨_, rfl⟩ := h4
   obtain ⟨u1, k3, u2, h5, h6⟩ := mM h3
   exact ⟨t :: u1, k3, u2, by rw [cM hx, h5]; rfl, h6⟩
theorem kD {body : List Sm} (hall : ∀ j, j < body.length → aW (body.getD j default) = true) : ∀ (d : Nat) {k q m : Nat}, body.length ≤ k + d → dc (body.drop k) q = some m → ∃ ts, ci (bR body) q k = some (ts, k + m)
 | d, k, 0, m, hd, h => by
  rw [show ((0 : Nat) : Int) = 0 from Z, f8 (Int.le_refl _)] at h
  obtain rfl := Option.some.inj h
  exact ⟨[], Z⟩
 | 0, k, q + 1, m, hd, h => by
  rw [List.drop_of_length_le (by omega), lM (by omega)] at h; cases h
 | d + 1, k, q + 1, m, hd, h => by
  by_cases hk : k < body.length
  rw [kn hk (by omega)] at h
  have hb := b0 (body.getD k default).kind
  rw [show ((q + 1 : Nat) : Int) - 1 + aN (body.getD k default).kind = (((aN (body.getD k default).kind).toNat + q : Nat) : Int) by omega] at h
  simp only [Option.map_eq_some_iff] at h
  obtain ⟨m', h1, rfl⟩ := h
  obtain ⟨ts, h2⟩ := kD hall d (by omega) h1
  obtain ⟨ts1, k1, ts2, h3, h4⟩ := mM h2
  have hkf : bQ (body.getD k default) = aN (body.getD k default).kind := by unfold bQ; rw [if_pos (hall k hk)]
  have h5 : bR body k = some (.node (body.getD k default) k ts1, k1) := by
   rw [ke, if_neg (by omega), if_neg (by omega), hkf, h3]; rfl
  exact ⟨.node (body.getD k default) k ts1 :: ts2, by rw [cM h5, h4, show k + (m' + 1) = k + 1 + m' by omega]; rfl⟩
  rw [List.drop_of_length_le (by omega), lM (by omega)] at h; cases h
theorem zE {body : List Sm} : body.all aW = true ↔ ∀ j, j < body.length → aW (body.getD j default) = true := by
 rw [List.all_eq_true]
 constructor
 intro h j hj; rw [aM hj]; exact h _ (List.getElem_mem hj)
 intro h x hx
 obtain ⟨j, hj, rfl⟩ := List.mem_iff_getElem.1 hx
 have := h j hj
 rwa [aM hj] at this
theorem uZ (body : List Sm) : gx body = po body := by
 by_cases h30 : (30 : Int) < body.length
 unfold po gx
 rw [if_pos h30, decide_eq_false (show ¬ (body.length : Int) ≤ 30 by omega), Bool.and_false, Bool.false_and]
 rw [Bool.eq_iff_iff]
 constructor
 intro h
 obtain ⟨h1, h2, h3, h4⟩ := rJ h
 have h5 : dc (body.drop 0) ((1 : Nat) : Int) = some body.length := by
  unfold kW at h4
  cases hx : dc (body.drop 0) ((1 : Nat) : Int) with
  | none => rw [show ((1 : Int)) = ((1 : Nat) : Int) from Z, hx] at h4; have h9 : (-1 : Int) = body.length := h4; omega
  | some n =>
   rw [show ((1 : Int)) = ((1 : Nat) : Int) from Z, hx] at h4
   have : n = body.length := by simp at h4; omega
   rw [this]
 obtain ⟨ts, h6⟩ := kD (zE.1 h3) body.length (by omega) h5
 cases hx : bR body 0 with
 | none => rw [dh hx] at h6; cases h6
 | some x =>
  obtain ⟨t, k1⟩ := x
  rw [cM hx] at h6
  simp only [ci, Option.map_some, eg, Prod.mk.injEq] at h6
  unfold po
  rw [if_neg h30, show vJ body = some (t, k1) from hx]
  show (true && decide ((k1 : Int) = body.length)) = true
  rw [decide_eq_true (by omega)]; rfl
 intro h
 obtain ⟨t, h1, h2, h3⟩ := lD h
 have h4 : bR body 0 = some (t, body.length) := h1
 have h5 := rC h4
 have h6 := (ga h4).1
 unfold gx
 rw [decide_eq_true (show (1 : Int) ≤ body.length by omega), decide_eq_true (show (body.length : Int) ≤ 30 by omega), zE.2 (fun j hj => ol h4 j (dF _) hj), decide_eq_true h5]
 rfl
structure Nd where
  kind : Int
  fact : Int
  term : Tm
  mul : List Int
  deriving Inhabited, DecidableEq
structure Sq where
  facts : List Tm
  goal : Tm
  deriving Inhabited, DecidableEq
abbrev Sq.cells (s : Sq) : List D := [e6 s.facts, .int .i64 s.goal.c, cG s.goal.xs]
theorem qE {L : Nat} (h1 : 4096 ≤ L) (h2 : L ≤ 1073741824) {xs : List Int} : MC Tryz.prog L 59 [cz xs] [] (Plain (cz xs)) := (vW h1 h2).frozen (.v (.c (.whole rfl (cw _).symm)))
theorem yX {L : Nat} (h1 : 4096 ≤ L) (h2 : L ≤ 1073741824) {xs : List Int} : MC Tryz.prog L 88 [cz xs] [] (Plain (cz xs)) := (sq h1 h2).frozen (.v (.c (.whole rfl (cw _).symm)))
abbrev aE (ts : List Tm) : B := .row false 2 (ts.map Tm.cells)

theorem vY : MQ h1 h2 160 [ptr t.cells] [] (Plain (cT t)) := by
 refine MC.data (jB 13 h1 h2 Tryz.func160 Z Z Z fun O hF => ?_)
 refine ag (jl O Z (jn (ah (fc O [_,_,_,_,_,_,_,_,_,_,_] [pn [] 0 1, pn [0] 0 1, pn [0,1] 0 1, pn [0,1,2] 0 1, pn [] 0 0, pn [4] 0 0, pn [4,5] 0 0, pn [4,5,6] 0 0, pe (rg 4 4) 0, pn (rg 0 9) 1 1, pe (rg 0 10) 1] [8,10] [_,_,_] (ai (kc O Z (V O Z)) (ai (kc O Z (V O Z)) (ai (kc O Z (V O Z)) (ai (kc O Z (V O Z)) (kc O Z (kc O Z (kc O Z (kc O Z (ai (bN O (B0 := 12000) Z Z Z Z (qE (xs := t.xs) h1 h2) (af Z) Z Z Z Z Z) (kc O Z (ai (eS O Z Z Z) trivial))))))))))) ?_))))
 refine ff ?_
 refine ⟨.inl Z, _, av, _, Z, ?_⟩
 exact .v (.agg (aC Z))
theorem AC : MQ h1 h2 140 [cT t] [] (Plain (cT t)) := by
 refine MC.data (jB 9 h1 h2 Tryz.func140 Z Z Z fun O hF => ?_)
 refine ag (jx O Z (jl O Z (jn (ah (fc O [_,_,_,_,_,_,_] [pn [] 0 1, pn [0] 0 1, pn [] 0 0, pn [2] 0 0, pe [2,3] 0, pn (rg 0 5) 1 1, pe (rg 0 6) 1] [4,6] [_,_,_] (ai (kc O Z (V O Z)) (ai (kc O Z (V O Z)) (kc O Z (kc O Z (ai (bN O (B0 := 8000) Z Z Z Z (yX (xs := t.xs) h1 h2) (af Z) Z Z Z Z Z) (kc O Z (ai (eS O Z Z Z) trivial))))))) ?_)))))
 refine ff ?_
 refine ⟨.inl Z, _, av, _, Z, ?_⟩
 exact .v (.agg (aC Z))
theorem sn : MQ h1 h2 125 [cW ts] [] (Rows (.c (.rs 0 0 ts.length)) [aE ts]) := by
 refine db (jB 20 h1 h2 Tryz.func125 Z Z Z fun O hF => ?_)
 have hl : ts.length ≤ L := by simpa [As.fact, A.fact, M.fact, D.fact, Ds.fact] using hF.1.1
 refine ag (js O Z (bn (AOps.heap (bB O Z Z Z) Z (js O Z (jn (ah (ag (js O Z (jn (aq (aH (X := Nat) (fun i => ⟨[(0, cW ts), (3, .c (.rs 900 0 i)), (4, eI i)], [(900, aE (ts.take i))]⟩) (fun i => i ≤ ts.length) (fun i => ts.length - i) 0 ((cy 5 Z).trans ((ac 5 900 Z Z).trans (Ent.to ⟨Z, Z, Z, trivial⟩ Z))) ?_ (fun i hi => ?_))))))))))))
 exact dF _
 refine ah (ag (j2 O Z Z (eK O Z (js O Z (jf [9,0,3,4] Z (jn (ae O Z Z (fun hc9 => ?_) (fun hc9 => ?_))))))))
 try simp only [cf] at hc9
 refine ak (ah (aq (an (j3 O Z Z Z (pq O Z Z (jf [15,12,9,0,3,4] Z (ay O Z Z Z Z (vY h1 h2) (af Z) Z Z Z Z (B0 := 17000) Z Z (jf [16,12,9,0,3,4] Z (AOps.heap (bA O Z Z Z Z Z Z Z Z Z Z Z) Z (jf [17,12,9,0,3,4] Z (AOps.heap (bk (own := false) (zs := (ts.take (i + 1)).map Tm.cells) (n := i + 1) O Z Z Z Z Z Z Z Z Z Z Z Z Z Z Z Z (.row Z (by simp; omega)) (.whole Z Z (.inr ⟨Z, Z⟩)) (by simp) Z (by simp; omega) (by simp; omega) (by rw [List.take_succ_eq_append_getElem (by omega), List.map_append, Int.toNat_natCast, aM (by omega)]; rfl) (by simp; omega)) Z (js O Z (jf [3,9,0,4] Z (jn (an (js O Z (ji O Z (js O Z (jf [4,3,9,0] Z (jn ?_))))))))))))))))))))
 refine ⟨i + 1, (am [18] (e' := [(0, _), (3, _), (4, _)]) Z Z ⟨Z, Z, Z, trivial⟩ Z).trans (ac 18 900 Z Z), by omega, by omega⟩
 try simp only [cf] at hc9
 refine bH (ag (j2 O Z Z (jr ?_)))
 obtain rfl : i = ts.length := by omega
 rw [List.take_length]
 refine ⟨.inl Z, _, av, _, Z, [900], by decide, Z, Z, Z⟩
theorem va {L : Nat} (h1 : 4096 ≤ L) (h2 : L ≤ 1073741824) {ts : List Tm} : MC Tryz.prog L 125 [cW ts] [] (Plain (cW ts)) := (sn h1 h2).frozen (.v (.c (.whole rfl (cw _).symm)))
def df (xs : List Int) : List Int := (xs.reverse.dropWhile (· == 0)).reverse
theorem kd {xs : List Int} : df (xs ++ [0]) = df xs := by simp [df]
theorem mD {xs : List Int} {x : Int} (h : x ≠ 0) : df (xs ++ [x]) = xs ++ [x] := by simp [df, h]
theorem mC {xs : List Int} {n : Nat} (h : n < xs.length) (h0 : xs.getD n default = 0) : df (xs.take (n + 1)) = df (xs.take n) := by
 rw [List.take_succ_eq_append_getElem h, ← aM h, h0, kd]
theorem mE {xs : List Int} {n : Nat} (hn : n ≤ xs.length) (h : n = 0 ∨ xs.getD (n - 1) default ≠ 0) : df (xs.take n) = xs.take n := by
 cases n with
 | zero => simp [df]
 | succ n =>
  have h' : xs.getD n default ≠ 0 := by
   rcases h with h | h
   cases h
   exact h
  rw [aM (by omega)] at h'
  rw [List.take_succ_eq_append_getElem (by omega), mD h']
def me (c : Int) (xs : List Int) : Tm × Bool := if (Tm.mk c (df xs)).ok = true then (⟨c, df xs⟩, true) else (⟨0, []⟩, false)
abbrev mq (r : Tm × Bool) : A := .tup [cT r.1, eB r.2]
def iK (a : Tm) (m : Int) (b : Tm) (n : Int) : List Int := (List.range 10).map fun i => m * a.xs.getD i 0 + n * b.xs.getD i 0
def rd (a : Tm) (m : Int) (b : Tm) (n : Int) : Tm × Bool := me (m * a.c + n * b.c) (iK a m b n)
def bu (t : Tm) : Tm × Bool := rd t (-1) ⟨1, []⟩ (-1)
structure Small (t : Tm) : Prop where
  c : num t.c = true
  xs : t.xs.all num = true
theorem eV {a b : Int} (h1 : num a = true) (h2 : num b = true) : -1000000000000 ≤ a * b ∧ a * b ≤ 1000000000000 := by
 have h1 := zy.1 h1
 have h2 := zy.1 h2
 have h3 : a.natAbs ≤ 1000000 := by omega
 have h4 : b.natAbs ≤ 1000000 := by omega
 have h5 := Nat.mul_le_mul h3 h4
 rw [← Int.natAbs_mul] at h5
 omega
theorem Small.get {t : Tm} (h : Small t) (i : Nat) : num (t.xs.getD i 0) = true := by
 by_cases hi : i < t.xs.length
 have : t.xs.getD i 0 = t.xs[i] := by simp [hi]
 rw [this]
 exact List.all_eq_true.1 h.xs _ (List.getElem_mem hi)
 have : t.xs.getD i 0 = 0 := by simp [Nat.not_lt.1 hi]
 rw [this]; decide
theorem Small.of {t : Tm} (h : t.ok = true) : Small t := by
 simp only [Tm.ok, bM, Bool.not_eq_true'] at h
 refine ⟨?_, h.2⟩
 cases hn : num t.c with
 | true => rfl
 | false => rw [hn] at h; simp at h
theorem rk {a b : Tm} {m n : Int} {i : Nat} (h : i < 10) : (iK a m b n).take (i + 1) = (iK a m b n).take i ++ [m * a.xs.getD i 0 + n * b.xs.getD i 0] := by
 rw [List.take_succ_eq_append_getElem (by simpa [iK] using h)]
 simp [iK]
theorem dK {a b : Tm} {m n : Int} : (iK a m b n).length = 10 := by simp [iK]
theorem pE {t : Tm} (h : t.ok = true) : t.xs.length ≤ 10 := by
 simp only [Tm.ok, bM, Bool.not_eq_true'] at h
 by_cases h1 : (10 : Int) < t.xs.length
 rw [decide_eq_true h1] at h
 cases num t.c <;> simp at h
 omega
theorem ui {c : Int} : MQ h1 h2 32 [eI c, cz xs] [] (Plain (mq (me c xs))) := by
 refine MC.data (jB 32 h1 h2 Tryz.func32 Z Z Z fun O hF => ?_)
 have hl : xs.length ≤ L := by simpa [As.fact, A.fact, M.fact, D.fact, Ds.fact] using hF.2.1.1
 refine ag (jl O Z (js O Z (bn (js O Z (eK O Z (js O Z (jf [6,5,4,0,1] Z (jn (ah (aq (aH (X := Nat) (fun n => ⟨[(0, eI c), (1, cz xs), (4, .c (.pt 4 0 0)), (6, eI n)], [(4, .box [.d (.int .i64 0), .d .nils])]⟩) (fun n => n ≤ xs.length ∧ df (xs.take n) = df xs) (fun n => n) xs.length (Ent.env ⟨Z, Z, Z, Z, trivial⟩) ?_ (fun n hi => ?_))))))))))))
 exact ⟨cN _, by rw [List.take_length]⟩
 refine ah (ag (j3 O Z Z Z (jf [12,0,1,4,6] Z (aw 6 Z Z Z (fun hx => ab hx Z Z Z (V O Z) Z Z ( ab hx Z Z Z (V O Z) Z Z ( ab hx Z Z Z (vF O Z) Z Z ( ab hx Z Z Z (vD O Z) Z Z ( ab hx Z Z Z (V O Z) Z Z ( ab hx Z Z Z (V O Z) Z Z ( AN.nil))))))) Z Z (aa (ar O Z Z Z Z Z) Z Z Z (jf [19,0,1,4,6] Z (jn (ae O Z Z (fun hc19 => ?_) (fun hc19 => ?_)))))))))
 refine ak (aq (an (js O Z (ji O Z (js O Z (jf [6,19,0,1,4] Z (jn ?_)))))))
 rw [Bool.cond_false_right, bM, decide_eq_true_eq, decide_eq_true_eq] at hc19
 obtain ⟨k, hk⟩ : ∃ k, n = k + 1 := ⟨n - 1, by omega⟩
 subst hk
 have hk2 : ((k + 1 : Nat) : Int) - 1 = k := by omega
 rw [hk2] at hc19
 refine ⟨k, Ent.to ⟨Z, Z, Z, by rw [hk2]; rfl, trivial⟩ Z, ⟨by omega, ?_⟩, Nat.lt_succ_self k⟩
 rw [← hi.2, mC (by omega) (by simpa using hc19.2)]
 refine bH (ag (j3 O Z Z Z ?_))
 have hd : df (xs.take n) = xs.take n := mE hi.1 (by
  rw [Bool.cond_false_right] at hc19
  rcases Nat.eq_zero_or_pos n with h0 | h0
  ·
   exact .inl h0
  ·
   refine .inr (fun h9 => ?_)
   have e1 : ((n : Int) - 1).toNat = n - 1 := by omega
   rw [e1, h9] at hc19; simp at hc19; omega)
 have ht := hi.2
 rw [hd] at ht
 refine aa ((eX O Z Z ⟨by omega, by simp; omega⟩).cast (v' := cz (df xs)) (by rw [← ht]; simp [List.map_take])) Z Z Z (jf [25,22,19,0,1,4,6] Z (ay O Z Z Z Z (qE (xs := df xs) h1 h2) (af Z) Z Z Z Z (B0 := 27000) Z Z (js O Z (jf [27,19,0,1,4,6] Z (jl O Z (jo O Z (jn (ah (ag (aB O Z Z Z Z (yh (t := ⟨c, df xs⟩) h1 h2) (.cons (.c (.pb (cs := Tm.cells ⟨c, df xs⟩) Z (aC Z))) .nil) Z Z Z Z Z (B0 := 29000) Z (js O Z (jn (ae O Z Z (fun hc29 => ?_) (fun hc29 => ?_))))))))))))))
 refine ag (js O Z (jo O Z (js O Z (jr ?_))))
 refine ⟨.inl Z, _, av, _, Z, ?_⟩
 have hok : (Tm.mk c (df xs)).ok = false := by simpa using hc29
 rw [show me c xs = (⟨0, []⟩, false) from if_neg (by rw [hok]; decide)]
 exact .tup (.cons (.agg (.cons .d (.cons .nils .nil))) (.cons (.c .d) .nil))
 refine ak (ag (js O Z (jo O Z (js O Z (jr ?_)))))
 refine ⟨.inl Z, _, av, _, Z, ?_⟩
 have hok : (Tm.mk c (df xs)).ok = true := by simpa using hc29
 rw [show me c xs = (⟨c, df xs⟩, true) from if_pos hok]
 exact .tup (.cons (.agg (aC Z)) (.cons (.c .d) .nil))
theorem x7 {i : Nat} (hi : i < 10) : MQ h1 h2 176 [ptr t.cells, eI i] [] (Plain (eI (t.xs.getD i 0))) := by
 refine aY ?_ Z
 refine jB 19 h1 h2 Tryz.func176 Z Z Z fun O hF => ?_
 have hl : t.xs.length ≤ L := by simpa [As.fact, A.fact, M.fact, D.fact, Ds.fact] using hF.1.2.1.1
 refine ag (js O Z (jn (ah (ag (j4 O Z Z Z Z (js O Z (eK O Z (js O Z (jf [11,4,0,1] Z (jn (ae O Z Z (fun hc11 => ?_) (fun hc11 => ?_))))))))))))
 try simp only [cf] at hc11
 refine ag (j4 O Z Z Z Z (js O Z (pq O Z Z (j2 O Z Z (jf [4,0,1] Z (jr ?_))))))
 refine ⟨.inl Z, _, av, _, Z, ?_⟩
 rw [Int.toNat_natCast]
 have : t.xs.getD i 0 = t.xs.getD i default := rfl
 rfl
 try simp only [cf] at hc11
 refine ak (ag (js O Z (jr ?_)))
 refine ⟨.inl Z, _, av, _, Z, ?_⟩
 have : t.xs.getD i 0 = 0 := by simp [show t.xs.length ≤ i by omega]
 rw [this]
theorem x9 {a b : Tm} {m : Int} (ha : Small a) (hb : Small b) (hm : num m = true) (hn : num n = true) : MQ h1 h2 151 [ptr a.cells, eI m, ptr b.cells, eI n] [] (Plain (mq (rd a m b n))) := by
 refine MC.data (jB 48 h1 h2 Tryz.func151 Z Z Z fun O hF => ?_)
 refine ag (jl O Z (js O Z (bn (AOps.heap (bB O Z Z Z) Z (js O Z (jn (ah (ag (js O Z (jn (aq (aH (X := Nat) (fun i => ⟨[(0, ptr a.cells), (1, eI m), (2, ptr b.cells), (3, eI n), (8, .c (.pt 8 0 0)), (10, .c (.rs 900 0 i)), (11, eI i)], [(8, .box [.d (.int .i64 0), .d .nils]), (900, aA ((iK a m b n).take i))]⟩) (fun i => i ≤ 10) (fun i => 10 - i) 0 ((ac 12 900 Z Z).trans (Ent.to ⟨Z, Z, Z, Z, Z, Z, Z, trivial⟩ Z)) ?_ (fun i hi => ?_)))))))))))))
 exact dF _
 refine ah (ag (j2 O Z Z (jn (ae O Z Z (fun hc14 => ?_) (fun hc14 => ?_)))))
 try simp only [cf] at hc14
 refine ak (ah (aq (an ?_)))
 have q1 := eV hm (ha.get i)
 have q2 := eV hn (hb.get i)
 refine j4 O Z Z Z Z (aB O Z Z Z Z (x7 (t := a) (i := i) h1 h2 (by omega)) (af Z) Z Z Z Z Z (B0 := 22000) Z (ji O Z (j3 O Z Z Z (jf [25,24,23,22,17,14,13,0,1,2,3,8,10,11] Z (aB O Z Z Z Z (x7 (t := b) (i := i) h1 h2 (by omega)) (af Z) Z Z Z Z Z (B0 := 27000) Z (ji O Z (ji O Z (jf [28,17,14,13,0,1,2,3,8,10,11] Z (AOps.heap (bB O Z Z Z) Z (jf [29,17,14,13,0,1,2,3,8,10,11] Z (AOps.heap (cZ (zs := ((iK a m b n).take (i + 1)).map fun n => [.int .i64 n]) (n := i + 1) O Z Z Z Z Z Z Z Z Z Z Z Z Z Z Z Z (.row Z (by simp [dK]; omega)) Z Z (by decide) Z (by simp [dK]; omega) (by simp [dK]; omega) (by rw [rk (by omega), List.map_append]; rfl) (by simp [dK]; omega)) Z (js O Z (jf [10,14,13,0,1,2,3,8,11] Z (jn (an (js O Z (ji O Z (js O Z (jf [11,10,14,13,0,1,2,3,8] Z (jn ?_))))))))))))))))))))
 refine ⟨i + 1, ((am [8,30] (e' := [(0, _), (1, _), (2, _), (3, _), (8, _), (10, _), (11, _)]) Z Z ⟨Z, Z, Z, Z, Z, Z, Z, trivial⟩ Z).trans (ac 30 900 Z Z)), by omega, by omega⟩
 try simp only [cf] at hc14
 refine bH (ah ?_)
 obtain rfl : i = 10 := by omega
 rw [List.take_of_length_le (by rw [dK]; decide)]
 have q1 := eV hm ha.c
 have q2 := eV hn hb.c
 refine lm (Ent.freeze 900 (e' := [(10, _), (8, _), (0, _), (1, _), (2, _), (3, _)]) Z (.cons Z (.c (.row Z (by simp [dK]))) (fe [8,0,1,2,3] Z)) (.cons Z (.box (fk Z)) (.skip .nil))) ?_
 refine fc O [_,_,_,_,_,_,_,_,_,_,_,_,_,_,_,_,_,_,_] [pn [] 0 0, pn [] 0 0, pn [1] 0 0, pn [1,2] 0 0, pn [1,2,3] 0 0, pn (rg 0 5) 0 0, pn [] 0 0, pn [] 0 0, pn [7] 0 0, pn [7,8] 0 0, pn [7,8,9] 0 0, pn (rg 6 5) 0 0, pn (rg 0 12) 0 0, pn [] 0 0, pe (rg 0 14) 0, pn (rg 0 15) 1 1, pn (rg 0 15) 1 1, pe (rg 0 17) 1, pn (rg 0 18) 2 2] [14,17] [_,_,_] (kc O Z (kc O Z (kc O Z (kc O Z (kc O Z (ai (vF O Z) (kc O Z (kc O Z (kc O Z (kc O Z (kc O Z (ai (vF O Z) (ai (vF O Z) (kc O Z (ai (bN O (B0 := 46000) Z Z Z Z (ui (c := m * a.c + n * b.c) (xs := iK a m b n) h1 h2) (af Z) Z Z Z Z Z) (kc O Z (kc O Z (ai (eS O Z Z Z) (kc O Z trivial))))))))))))))))))) ?_
 refine jw [9,10,8,0,1,2,3] Z (bK ?_)
 refine ff ?_
 refine ⟨.inl Z, _, av, _, Z, ?_⟩
 exact .tup (.cons (.agg (aC Z)) (.cons (.c .d) .nil))
theorem yb (ht : Small t) : MQ h1 h2 106 [ptr t.cells] [] (Plain (mq (bu t))) := by
 refine MC.data (jB 10 h1 h2 Tryz.func106 Z Z Z fun O hF => ?_)
 refine ag (jl O Z (js O Z (bn (j2 O Z Z (jf [5,4,3,2] Z (jx O Z (jf [6,4,3,2] Z (au (Ent.freeze 6 (e' := [(6, _), (4, _), (2, _)]) Z (.cons Z (.c (.box (cs := Tm.cells ⟨1, []⟩) Z (.cons .d (.cons .nils .nil)))) (fe [4,2] Z)) (.cons Z (.box (fk Z)) (.skip .nil))) ?_))))))))
 refine ay O Z Z Z Z (x9 (a := t) (m := -1) (b := ⟨1, []⟩) (n := -1) h1 h2 ht ⟨by decide, by decide⟩ (by decide) (by decide)) (af Z) Z Z Z Z (B0 := 8000) Z Z (j2 O Z Z (jf [9,8,2] Z (jo O Z (js O Z (jf [3,2] Z (jr ?_))))))
 refine ⟨.inl Z, _, av, _, Z, ?_⟩
 exact .tup (.cons (.agg (aC Z)) (.cons (.c .d) .nil))
def gI (ts : List Tm) (n : Int) : Bool := ts.all Tm.ok && decide ((ts.length : Int) ≤ n)
def co (x : Int) : Bool := decide (0 ≤ x) && decide (x ≤ 1000000)
def dl (k : Int) : Int := if k = 1 then -1 else if k = 2 then 1 else 0
def x5 : List Nd → Int → Option Nat
  | [], need => if need ≤ 0 then some 0 else none
  | s :: r, need => if need ≤ 0 then some 0 else (x5 r (need + dl s.kind)).map (· + 1)
def Ai (p : List Nd) (k : Nat) : Int := match x5 (p.drop k) 1 with
  | some n => k + n
  | none => -1
def xG (p : List Nd) (k : Nat) : Nat → Int × Bool
  | 0 => (-1, false)
  | i + 1 => if (p.getD i default).kind = 1 ∨ Ai p i ≤ k then xG p k i else (i, decide (i + 1 = k))
def sl (xs : List Int) : Nat := xs.foldl (fun g x => Nat.gcd g x.natAbs) 0
def mx (a b : Int) : Int := if a > b then a else b
def sO (t : Tm) : Tm × Bool := if sl t.xs < 2 then (⟨0, []⟩, false) else
  me (if t.c.tmod (sl t.xs) < 0 then t.c.tdiv (sl t.xs) - 1 else t.c.tdiv (sl t.xs)) (t.xs.map fun x => x.tdiv (sl t.xs))
def xn (n : Nd) (ctx : List Tm) (first : Bool) : List Tm := if n.kind = 3 then ctx ++ [(sO (ctx.getD n.fact.toNat default)).1] else if first = true then ctx ++ [n.term] else ctx ++ [(bu n.term).1]
def bS (f : Tm → Int) : List Tm → List Int → Int
  | t :: ts, m :: ms => m * f t + bS f ts ms
  | _, _ => 0
theorem gf {f : Tm → Int} : ∀ {ts : List Tm} {ms : List Int} {i : Nat}, i < ts.length → i < ms.length → bS f (ts.take (i + 1)) (ms.take (i + 1)) = bS f (ts.take i) (ms.take i) + ms.getD i default * f (ts.getD i default)
 | [], _, i, h, _ => by simp at h
 | _ :: _, [], i, _, h => by simp at h
 | x :: xs, y :: ys, 0, _, _ => by simp [bS]
 | x :: xs, y :: ys, i + 1, h1, h2 => by
  have := gf (f := f) (ts := xs) (ms := ys) (i := i) (by simpa using h1) (by simpa using h2)
  simp only [List.take_succ_cons, bS, List.getD_cons_succ] at this ⊢
  omega
theorem jE {f : Tm → Int} {ts : List Tm} {ms : List Int} (hf : ∀ t ∈ ts, num (f t) = true) (hm : ms.all num = true) : ∀ {i : Nat}, i ≤ ts.length → i ≤ ms.length → -(i * 1000000000000 : Int) ≤ bS f (ts.take i) (ms.take i) ∧ bS f (ts.take i) (ms.take i) ≤ i * 1000000000000
 | 0, _, _ => by simp [bS]
 | i + 1, h1, h2 => by
  have ih := jE hf hm (i := i) (by omega) (by omega)
  rw [gf (by omega) (by omega)]
  have a1 := hf _ (List.getElem_mem (show i < ts.length by omega))
  have a2 := List.all_eq_true.1 hm _ (List.getElem_mem (show i < ms.length by omega))
  have := eV a2 a1
  rw [aM (by omega), aM (by omega)]
  omega
abbrev m8 (k : Nat) : Tm → Int := fun t => t.xs.getD k 0
def cj (ts : List Tm) (ms : List Int) : List Int := (List.range 10).map fun k => bS (m8 k) ts ms
def uT (ctx : List Tm) (ms : List Int) : Bool := decide (ctx.length = ms.length) && ((cj ctx ms).all (fun x => decide (x = 0)) && decide (bS Tm.c ctx ms < 0))
def sQ (n : Nd) (ctx : List Tm) : Bool := if n.kind = 1 then uT ctx n.mul else if 20 ≤ ctx.length then false else if n.kind = 2 then (bu n.term).2 else if n.fact ≥ ctx.length then false else (sO (ctx.getD n.fact.toNat default)).2

def eM (ts : List Tm) (ms : List Int) (i j : Nat) : List Int := (List.range 10).map fun k => bS (m8 k) (ts.take i) (ms.take i) + (if k < j then ms.getD i default * (ts.getD i default).xs.getD k 0 else 0)
theorem dL {ts ms i j} : (eM ts ms i j).length = 10 := by simp [eM]
theorem mI {ts ms i} : eM ts ms i 0 = cj (ts.take i) (ms.take i) := by simp [eM, cj]
theorem lG {ts ms i j} (h : j < 10) : (eM ts ms i j).getD j default = bS (m8 j) (ts.take i) (ms.take i) := by
 rw [aM (by rw [dL]; exact h)]
 simp [eM]
theorem mJ {ts ms i j} (h : j < 10) : (eM ts ms i j).set j ((eM ts ms i j).getD j default + ms.getD i default * (ts.getD i default).xs.getD j default) = eM ts ms i (j + 1) := by
 rw [lG h]
 apply List.ext_getElem?
 intro k
 rw [List.getElem?_set]
 by_cases hk : k < 10
 by_cases e : j = k
 subst e
 rw [if_pos Z, if_pos (by rw [dL]; exact h)]
 simp [eM, h]
 rw [if_neg e]
 have h3 : (k < j + 1) = (k < j) := by apply propext; omega
 simp only [eM, List.getElem?_map, List.getElem?_range hk, Option.map_some, h3]
 have h1 : (eM ts ms i j)[k]? = none := List.getElem?_eq_none (by rw [dL]; omega)
 have h2 : (eM ts ms i (j + 1))[k]? = none := List.getElem?_eq_none (by rw [dL]; omega)
 rw [if_neg (by omega), h1, h2]
theorem oA {ts ms i j} (h1 : i < ts.length) (h2 : i < ms.length) (h : (ts.getD i default).xs.length ≤ j) : eM ts ms i j = cj (ts.take (i + 1)) (ms.take (i + 1)) := by
 unfold eM cj
 apply List.map_congr_left
 intro k hk
 rw [gf h1 h2]
 by_cases e : k < j
 rw [if_pos e]
 rw [if_neg e]
 show _ + 0 = _ + _ * (ts.getD i default).xs.getD k 0
 rw [show (ts.getD i default).xs.getD k 0 = 0 by rw [List.getD_eq_getElem?_getD, List.getElem?_eq_none (by omega)]; rfl, Int.mul_zero]
theorem jU {ts ms} : (cj ts ms).length = 10 := by simp [cj]
structure CtxOk (ctx : List Tm) : Prop where
  ok : ∀ t ∈ ctx, t.ok = true
  len : ctx.length ≤ 1000
theorem CtxOk.get {ctx : List Tm} (h : CtxOk ctx) {i : Nat} (hi : i < ctx.length) : (ctx.getD i default).ok = true := by rw [aM hi]; exact h.ok _ (List.getElem_mem hi)
end Go.Al
