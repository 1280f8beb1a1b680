/- Programs and their validity; the reference's functions for bz. -/
import Derived.Test.YtbkloknmpkgmbaaGreatD
set_option linter.unusedVariables false
set_option linter.unusedSimpArgs false
set_option maxRecDepth 10000
open Go.Proofs
namespace Go.Al
variable {L : Nat} (h1 : 4096 ≤ L) (h2 : L ≤ 1073741824)
def Tm.term (t : Tm) : Bool := t.ok && decide ((t.xs.length : Int) ≤ 4)
def bz (ts : List Tm) (n : Int) : Bool := ts.all Tm.term && decide ((ts.length : Int) ≤ n)
def ba (k : Int) : Int := if k = 1 then 2 else if k = 7 then 2 else if k = 8 then 1 else 0
def dU : List Sm → Int → Option Nat
  | [], need => if need ≤ 0 then some 0 else none
  | s :: r, need => if need ≤ 0 then some 0 else (dU r (need + (ba s.kind - 1))).map (· + 1)
def mE (body : List Sm) (k : Nat) : Int := match dU (body.drop k) 1 with
  | some n => k + n
  | none => -1
def Tm.zero (t : Tm) : Bool := decide (t.c = 0) && decide ((t.xs.length : Int) = 0)

variable {t : Tm}
theorem uC : MQ h1 h2 117 [ptr t.cells] [] (Plain (eB t.term)) := by
 refine aP ?_ Z
 refine jB 13 h1 h2 Tryz.func117 Z Z Z fun O hF => ?_
 refine ag (js O Z (bf (js O Z (aA O Z Z Z Z (td h1 h2) (ac Z) Z Z Z Z Z (B0 := 5000) Z (js O Z (ax 6 Z Z Z (fun hx => ab hx Z Z Z (V O Z) Z Z ( ab hx Z Z Z (V O Z) Z Z ( ab hx Z Z Z (V O Z) Z Z ( ab hx Z Z Z (V O Z) Z Z ( ab hx Z Z Z (bG O Z Z Z Z Z Z Z Z) Z Z ( ab hx Z Z Z (V O Z) Z Z ( AN.nil))))))) Z Z (aa (ao O Z Z Z Z Z) Z Z Z (js O Z (jr ?_)))))))))
 refine ⟨.inl Z, _, ar, _, Z, ?_⟩
 rw [Bool.cond_false_right]; rfl
variable {ts : List Tm} {n : Int}
theorem uE : MQ h1 h2 78 [b0 ts, eI n] [] (Plain (eB (bz ts n))) := by
 refine aP ?_ Z
 refine jB 21 h1 h2 Tryz.func78 Z Z Z fun O hF => ?_
 have hl : ts.length ≤ L := by simpa [As.fact, A.fact, M.fact, D.fact, Ds.fact] using hF.1.1
 refine ag (js O Z (jn (ah (ag (js O Z (jn (aw (aE (X := Nat) (fun i => ⟨[(0, b0 ts), (1, eI n), (5, eI i)], []⟩) (fun i => i ≤ ts.length ∧ ∀ j (h : j < ts.length), j < i → Tm.term ts[j] = true) (fun i => ts.length - i) 0 (Ent.env ⟨Z, Z, Z, trivial⟩) ?_ (fun i hi => ?_)))))))))
 exact ⟨dm _, fun j h hj => absurd hj (Nat.not_lt_zero j)⟩
 refine ah (ag (j2 O Z Z (dn O Z (js O Z (jn (af O Z Z (fun hc9 => ?_) (fun hc9 => ?_)))))))
 try simp only [bL] at hc9
 refine an (ah (aw (ag (j2 O Z Z (nq O Z Z (aA O Z Z Z Z (uC h1 h2) (ac Z) Z Z Z Z Z (B0 := 16000) Z (js O Z (jn (af O Z Z (fun hc16 => ?_) (fun hc16 => ?_))))))))))
 try simp only [bL] at hc16
 refine ag (js O Z (jr ?_))
 refine ⟨.inl Z, _, ar, _, Z, ?_⟩
 rw [Int.toNat_natCast, aK (by omega)] at hc16
 rw [bz, fG i (by omega) hc16, Bool.false_and]
 try simp only [bL] at hc16
 refine an (am (js O Z (ji O Z (js O Z (jn ?_)))))
 refine ⟨i + 1, Ent.env ⟨Z, Z, Z, trivial⟩, ⟨by omega, fun j h hj => ?_⟩, by omega⟩
 by_cases e : j = i
 subst e; rw [Int.toNat_natCast, aK h] at hc16; exact hc16
 exact hi.2 j h (by omega)
 try simp only [bL] at hc9
 refine bt (ag (js O Z (dn O Z (j3 O Z Z Z (jr ?_)))))
 refine ⟨.inl Z, _, ar, _, Z, ?_⟩
 rw [bz, gc (fun j hj => hi.2 j hj (by omega)), Bool.true_and]
theorem cu (k : Int) : 0 ≤ ba k ∧ ba k ≤ 2 := by unfold ba; split; decide; split; decide; split <;> decide
theorem gJ {l : List Sm} {n : Int} (h : n ≤ 0) : dU l n = some 0 := by cases l <;> simp [dU, h]
theorem li {n : Int} (h : 0 < n) : dU [] n = none := by simp [dU]; omega
theorem n0 {l : List Sm} {n : Int} (h : 0 < n) {k : Nat} (hk : k < l.length) : dU (l.drop k) n = (dU (l.drop (k + 1)) (n + (ba (l.getD k default).kind - 1))).map (· + 1) := by
 rw [List.drop_eq_getElem_cons hk, aK hk]
 show (if n ≤ 0 then some 0 else _) = _
 rw [if_neg (by omega)]
theorem y6 {k : Int} : MQ h1 h2 72 [eI k] [] (Plain (eI (ba k))) := by
 refine aP ?_ Z
 refine jB 9 h1 h2 Tryz.func72 Z Z Z fun O hF => ?_
 refine ag (js O Z (jn (ah (ag (js O Z (jn (aw (ah (ag (j2 O Z Z (jn (af O Z Z (fun hc4 => ?_) (fun hc4 => ?_)))))))))))))
 try simp only [bL] at hc4
 refine an (af O Z Z (fun hc4 => ?_) (fun hc4 => ?_))
 try simp only [bL] at hc4
 refine ag (js O Z (jr ?_))
 refine ⟨.inl Z, _, ar, _, Z, ?_⟩
 simp_all [ba]
 try simp only [bL] at hc4
 refine ag (j2 O Z Z (jn (af O Z Z (fun hc7 => ?_) (fun hc7 => ?_))))
 try simp only [bL] at hc7
 refine ag (js O Z (jr ?_))
 refine ⟨.inl Z, _, ar, _, Z, ?_⟩
 simp_all [ba]
 try simp only [bL] at hc7
 refine an (ag (js O Z (jr ?_)))
 refine ⟨.inl Z, _, ar, _, Z, ?_⟩
 simp_all [ba]
 try simp only [bL] at hc4
 refine am (j2 O Z Z (jn (af O Z Z (fun hc4 => ?_) (fun hc4 => ?_))))
 try simp only [bL] at hc4
 refine ag (js O Z (jr ?_))
 refine ⟨.inl Z, _, ar, _, Z, ?_⟩
 simp_all [ba]
 try simp only [bL] at hc4
 refine ag (j2 O Z Z (jn (af O Z Z (fun hc7 => ?_) (fun hc7 => ?_))))
 try simp only [bL] at hc7
 refine ag (js O Z (jr ?_))
 refine ⟨.inl Z, _, ar, _, Z, ?_⟩
 simp_all [ba]
 try simp only [bL] at hc7
 refine an (ag (js O Z (jr ?_)))
 refine ⟨.inl Z, _, ar, _, Z, ?_⟩
 simp_all [ba]
theorem wI : MQ h1 h2 165 [ptr t.cells] [] (Plain (eB t.zero)) := by
 refine aP ?_ Z
 refine jB 16 h1 h2 Tryz.func165 Z Z Z fun O hF => ?_
 refine ag (js O Z (bf (j4 O Z Z Z Z (j2 O Z Z (ax 6 Z Z Z (fun hx => ab hx Z Z Z (V O Z) Z Z ( ab hx Z Z Z (V O Z) Z Z ( ab hx Z Z Z (V O Z) Z Z ( ab hx Z Z Z (V O Z) Z Z ( ab hx Z Z Z (bG O Z Z Z Z Z Z Z Z) Z Z ( ab hx Z Z Z (V O Z) Z Z ( AN.nil))))))) Z Z (aa (ao O Z Z Z Z Z) Z Z Z (js O Z (jr ?_))))))))
 refine ⟨.inl Z, _, ar, _, Z, ?_⟩
 rw [Bool.cond_false_right]; rfl
variable {body : List Sm}
theorem zc {k : Nat} (hk : k ≤ body.length) : MQ h1 h2 119 [.c (.d (go body)), eI k] [] (Plain (eI (mE body k))) := by
 refine aP ?_ Z
 refine jB 24 h1 h2 Tryz.func119 Z Z Z fun O hF => ?_
 have hl : body.length ≤ L := by simpa [As.fact, A.fact, M.fact, D.fact, Ds.fact] using hF.1.1
 refine ag (js O Z (bf (js O Z (jn (ah (aw (aE (X := Int × Nat) (fun x => ⟨[(0, .c (.d (go body))), (1, eI (k + x.2)), (5, eI x.1)], []⟩) (fun x => k + x.2 ≤ body.length ∧ (dU (body.drop k) 1 = (dU (body.drop (k + x.2)) x.1).map (· + x.2)) ∧ 0 ≤ x.1 ∧ x.1 ≤ x.2 + 1) (fun x => body.length - (k + x.2)) (1, 0) (Ent.env ⟨Z, by simp [cI, az], Z, trivial⟩) ?_ (fun x hi => ?_))))))))
 exact ⟨hk, by simp, by decide, by decide⟩
 refine ah (ag (j2 O Z Z (jn (af O Z Z (fun hc7 => ?_) (fun hc7 => ?_)))))
 try simp only [bL] at hc7
 refine an (aw (ah (ag (j2 O Z Z (dn O Z (js O Z (jn (af O Z Z (fun hc11 => ?_) (fun hc11 => ?_)))))))))
 try simp only [bL] at hc11
 refine ag (js O Z (jr ?_))
 refine ⟨.inl Z, _, ar, _, Z, ?_⟩
 have e : k + x.2 = body.length := by omega
 rw [mE, hi.2.1, List.drop_of_length_le (by omega), li hc7]; rfl
 try simp only [bL] at hc11
 refine an (ag (j3 O Z Z Z (nq O Z Z (j2 O Z Z (aA O Z Z Z Z (y6 h1 h2) (ac Z) Z Z Z Z Z (B0 := 19000) Z ?_)))))
 have hb := cu (body.getD ((k : Int) + x.2).toNat default).kind
 refine aa (aN O Z Z (by omega) (by omega)) Z Z Z (ji O Z (js O Z (jn (am (js O Z (ji O Z (js O Z (jn ?_))))))))
 have hk2 : k + x.2 < body.length := by omega
 have e := n0 hc7 hk2
 rw [e, Option.map_map] at hi
 refine ⟨(x.1 + (ba (body.getD (k + x.2) default).kind - 1), x.2 + 1), Ent.env ⟨Z, ?_, Z, trivial⟩, ⟨by show k + (x.2 + 1) ≤ _; omega, ?_, ?_, ?_⟩, by show body.length - (k + (x.2 + 1)) < _; omega⟩
 exact congrArg (fun z => some (eI z)) (by show (k : Int) + x.2 + 1 = k + (x.2 + 1 : Nat); omega)
 rw [hi.2.1]; exact congrArg (fun f => Option.map f _) (funext fun n => by show n + 1 + x.2 = n + (x.2 + 1); omega)
 show 0 ≤ x.1 + (ba (body.getD (k + x.2) default).kind - 1); have := (cu (body.getD (k + x.2) default).kind).1; omega
 show x.1 + (ba (body.getD (k + x.2) default).kind - 1) ≤ (x.2 + 1 : Nat) + 1; have := (cu (body.getD (k + x.2) default).kind).2; omega
 try simp only [bL] at hc7
 refine bt (ag (j2 O Z Z (jr ?_)))
 refine ⟨.inl Z, _, ar, _, Z, ?_⟩
 rw [mE, hi.2.1, gJ hc7]; exact congrArg eI (by show (k : Int) + x.2 = k + (0 + x.2 : Nat); omega)
def nv (s : Sm) : Bool := bif bif bif bif decide (s.kind = 2) then true else decide (s.kind = 4) then true else decide (s.kind = 6) then true else decide (s.kind = 7) then true else decide (s.kind = 8)
def ny (s : Sm) : Bool := bif decide (s.kind = 3) then true else decide (s.kind = 4)
def kM (s : Sm) : Bool := bif decide (s.kind = 2) then true else decide (s.kind = 3)
def nk (s : Sm) : Bool := bif bif bif !(decide (0 ≤ s.kind) && decide (s.kind ≤ 8)) then true else !s.sum.term then true else !s.index.term then true else !bz s.facts 6
def qp (s : Sm) : Bool := bif bif bif !nv s then !s.sum.zero else false then true else bif !ny s then !s.index.zero else false then true else bif !decide (s.kind = 8) then decide ((0 : Int) < s.facts.length) else false
def qY (s : Sm) : Bool := bif bif kM s then !(decide (0 ≤ s.var) && decide (s.var ≤ 3)) else false then true else bif !kM s then !decide (s.var = 0) else false
def bb (s : Sm) : Bool := bif nk s then false else bif qp s then false else bif qY s then false else bif decide (s.kind = 5) then (decide (0 ≤ s.event) && decide (s.event ≤ 3)) else decide (s.event = 0)
def gn (b : List Sm) : Bool := (decide ((1 : Int) ≤ b.length) && decide ((b.length : Int) ≤ 30)) && (b.all bb && decide (mE b 0 = b.length))
def eJ (p : Pm) : Bool := bz p.pre 6 && (gn p.body && bz p.post 6)
def ol (x : Int) : Bool := decide (-1000000000 ≤ x) && decide (x ≤ 1000000000)
def b9 (xs : List Int) (n : Int) : Bool := xs.all ol && decide ((xs.length : Int) = n)
def s3 (s : Sx) : Bool := b9 s.vars 4 && b9 s.cells 8
def iY : List Int → List Int → Int
  | x :: xs, y :: ys => x * y + iY xs ys
  | _, _ => 0
def dQ (t : Tm) (vars : List Int) : Int := t.c + iY t.xs vars
theorem gK : ∀ {xs ys : List Int} {i : Nat}, i < xs.length → i < ys.length → iY (xs.take (i + 1)) (ys.take (i + 1)) = iY (xs.take i) (ys.take i) + xs.getD i default * ys.getD i default
 | [], _, i, h, _ => by simp at h
 | _ :: _, [], i, _, h => by simp at h
 | x :: xs, y :: ys, 0, _, _ => by simp [iY]
 | x :: xs, y :: ys, i + 1, h1, h2 => by
  have := gK (xs := xs) (ys := ys) (i := i) (by simpa using h1) (by simpa using h2)
  simp only [List.take_succ_cons, iY, List.getD_cons_succ] at this ⊢
  omega
theorem kI : ∀ {xs ys : List Int} {i : Nat}, xs.length ≤ i → iY (xs.take i) (ys.take i) = iY xs ys
 | [], _, i, h => by simp [iY]
 | _ :: _, _, 0, h => by simp at h
 | _ :: _, [], i + 1, h => by simp [iY]
 | x :: xs, y :: ys, i + 1, h => by
  simp only [List.take_succ_cons, iY]
  rw [kI (by simpa using h)]
theorem mH {a b : Int} (h1 : -1000000 ≤ a ∧ a ≤ 1000000) (h2 : -1000000000 ≤ b ∧ b ≤ 1000000000) : -1000000000000000 ≤ a * b ∧ a * b ≤ 1000000000000000 := by
 have h3 : a.natAbs ≤ 1000000 := by omega
 have h4 : b.natAbs ≤ 1000000000 := by omega
 have h5 := Nat.mul_le_mul h3 h4
 rw [← Int.natAbs_mul] at h5
 omega
theorem ya {x : Int} : num x = true ↔ -1000000 ≤ x ∧ x ≤ 1000000 := by simp [num]
theorem yd {x : Int} : ol x = true ↔ -1000000000 ≤ x ∧ x ≤ 1000000000 := by simp [ol]
theorem mK {xs ys : List Int} (hx : xs.all num = true) (hy : ys.all ol = true) : ∀ {i : Nat}, i ≤ xs.length → i ≤ ys.length → -(i * 1000000000000000 : Int) ≤ iY (xs.take i) (ys.take i) ∧ iY (xs.take i) (ys.take i) ≤ i * 1000000000000000
 | 0, _, _ => by simp [iY]
 | i + 1, h1, h2 => by
  have ih := mK hx hy (i := i) (by omega) (by omega)
  rw [gK (by omega) (by omega)]
  have a1 := ya.1 (List.all_eq_true.1 hx _ (List.getElem_mem (show i < xs.length by omega)))
  have a2 := yd.1 (List.all_eq_true.1 hy _ (List.getElem_mem (show i < ys.length by omega)))
  have := mH a1 a2
  rw [aK (by omega), aK (by omega)]
  omega
theorem kX {t : Tm} (h : t.term = true) : num t.c = true ∧ t.xs.all num = true ∧ t.xs.length ≤ 4 := by
 simp only [Tm.term, Tm.ok, bJ, decide_eq_true_eq, Bool.not_eq_true'] at h
 obtain ⟨⟨h1, h2⟩, h3⟩ := h
 refine ⟨?_, h2, by omega⟩
 cases hn : num t.c with
 | true => rfl
 | false => rw [hn] at h1; simp at h1
theorem jS {xs : List Int} {n : Int} (h : b9 xs n = true) : xs.all ol = true ∧ (xs.length : Int) = n := by simpa [b9] using h

theorem y7 {s : Sm} : MQ h1 h2 118 [ptr s.cells] [] (Plain (eB (bb s))) := by
 refine aP ?_ Z
 refine jB 161 h1 h2 Tryz.func118 Z Z Z fun O hF => ?_
 refine ag (js O Z (bf (j4 O Z Z Z Z (j2 O Z Z (bc [(11, _), (2, _), (0, _)] [] ⟨Z, Z, Z, trivial⟩ Z (ax 5 Z Z Z (fun hx => ab hx Z Z Z (V O Z) Z Z ( ab hx Z Z Z (V O Z) Z Z ( ab hx Z Z Z (V O Z) Z Z ( ab hx Z Z Z (V O Z) Z Z ( ab hx Z Z Z (V O Z) Z Z ( AN.nil)))))) Z Z (aa (aQ O Z Z Z Z Z) Z Z Z (js O Z (bc [(18, _), (2, _), (0, _)] [] ⟨Z, Z, Z, trivial⟩ Z (ax 5 Z Z Z (fun hx => ab hx Z Z Z (V O Z) Z Z ( ab hx Z Z Z (V O Z) Z Z ( ab hx Z Z Z (V O Z) Z Z ( ab hx Z Z Z (V O Z) Z Z ( ab hx Z Z Z (V O Z) Z Z ( AN.nil)))))) Z Z (aa (aQ O Z Z Z Z Z) Z Z Z (js O Z (bc [(25, _), (2, _), (0, _)] [] ⟨Z, Z, Z, trivial⟩ Z (ax 5 Z Z Z (fun hx => ab hx Z Z Z (V O Z) Z Z ( ab hx Z Z Z (V O Z) Z Z ( ab hx Z Z Z (V O Z) Z Z ( ab hx Z Z Z (V O Z) Z Z ( ab hx Z Z Z (V O Z) Z Z ( AN.nil)))))) Z Z (aa (aQ O Z Z Z Z Z) Z Z Z (js O Z (bc [(32, _), (2, _), (0, _)] [] ⟨Z, Z, Z, trivial⟩ Z (ax 5 Z Z Z (fun hx => ab hx Z Z Z (V O Z) Z Z ( ab hx Z Z Z (V O Z) Z Z ( ab hx Z Z Z (V O Z) Z Z ( ab hx Z Z Z (V O Z) Z Z ( ab hx Z Z Z (V O Z) Z Z ( AN.nil)))))) Z Z (aa (aQ O Z Z Z Z Z) Z Z Z (js O Z (jf [3,2,0] Z (bf (j4 O Z Z Z Z (j2 O Z Z (bc [(44, _), (3, _), (2, _), (0, _)] [] ⟨Z, Z, Z, Z, trivial⟩ Z (ax 5 Z Z Z (fun hx => ab hx Z Z Z (V O Z) Z Z ( ab hx Z Z Z (V O Z) Z Z ( ab hx Z Z Z (V O Z) Z Z ( ab hx Z Z Z (V O Z) Z Z ( ab hx Z Z Z (V O Z) Z Z ( AN.nil)))))) Z Z (aa (aQ O Z Z Z Z Z) Z Z Z (js O Z (jf [4,3,2,0] Z ?_)))))))))))))))))))))))))))))
 refine bf (j4 O Z Z Z Z (j2 O Z Z (bc [(56, _), (4, _), (3, _), (2, _), (0, _)] [] ⟨Z, Z, Z, Z, Z, trivial⟩ Z (ax 5 Z Z Z (fun hx => ab hx Z Z Z (V O Z) Z Z ( ab hx Z Z Z (V O Z) Z Z ( ab hx Z Z Z (V O Z) Z Z ( ab hx Z Z Z (V O Z) Z Z ( ab hx Z Z Z (V O Z) Z Z ( AN.nil)))))) Z Z (aa (aQ O Z Z Z Z Z) Z Z Z (js O Z (jf [5,4,3,2,0] Z (jn (ah (ag (j4 O Z Z Z Z (bc [(66, _), (5, _), (4, _), (3, _), (2, _), (0, _)] [] ⟨Z, Z, Z, Z, Z, Z, trivial⟩ Z (aA O Z Z Z Z (wh h1 h2) (ac Z) Z Z Z Z Z (B0 := 68000) Z (j2 O Z Z (bc [(69, _), (5, _), (4, _), (3, _), (2, _), (0, _)] [] ⟨Z, Z, Z, Z, Z, Z, trivial⟩ Z (ax 5 Z Z Z (fun hx => ab hx Z Z Z (V O Z) Z Z ( ab hx Z Z Z (V O Z) Z Z ( ab hx Z Z Z (V O Z) Z Z ( bv O hx Z Z Z Z (uC (t := s.sum) h1 h2) (.cons (.c (.sub Z)) .nil) Z Z Z Z Z Z Z (B0 := 74000) Z ( ab hx Z Z Z (V O Z) Z Z ( AN.nil)))))) Z Z (aa (aQ O Z Z Z Z Z) Z Z Z (js O Z (bc [(76, _), (5, _), (4, _), (3, _), (2, _), (0, _)] [] ⟨Z, Z, Z, Z, Z, Z, trivial⟩ Z (ax 5 Z Z Z (fun hx => ab hx Z Z Z (V O Z) Z Z ( ab hx Z Z Z (V O Z) Z Z ( ab hx Z Z Z (V O Z) Z Z ( bv O hx Z Z Z Z (uC (t := s.index) h1 h2) (.cons (.c (.sub Z)) .nil) Z Z Z Z Z Z Z (B0 := 81000) Z ( ab hx Z Z Z (V O Z) Z Z ( AN.nil)))))) Z Z (aa (aQ O Z Z Z Z Z) Z Z Z (js O Z (bc [(83, _), (5, _), (4, _), (3, _), (2, _), (0, _)] [] ⟨Z, Z, Z, Z, Z, Z, trivial⟩ Z (ax 6 Z Z Z (fun hx => ab hx Z Z Z (V O Z) Z Z ( ab hx Z Z Z (V O Z) Z Z ( ab hx Z Z Z (V O Z) Z Z ( ab hx Z Z Z (V O Z) Z Z ( bv O hx Z Z Z Z (uE h1 h2) (ac Z) Z Z Z Z Z Z Z (B0 := 89000) Z ( ab hx Z Z Z (V O Z) Z Z ( AN.nil))))))) Z Z (aa (aQ O Z Z Z Z Z) Z Z Z (jf [90,5,4,3,2,0] Z (jn (af O Z Z (fun hc90 => ?_) (fun hc90 => ?_)))))))))))))))))))))))))))))
 refine ag (js O Z (jr ?_))
 refine ⟨.inl Z, _, ar, _, Z, ?_⟩
 rw [bb, show nk s = true from hc90]; rfl
 refine an (ah (ag (j3 O Z Z Z (bc [(93, _), (5, _), (4, _), (2, _), (0, _)] [] ⟨Z, Z, Z, Z, Z, trivial⟩ Z (ax 5 Z Z Z (fun hx => ab hx Z Z Z (V O Z) Z Z ( ab hx Z Z Z (V O Z) Z Z ( ab hx Z Z Z (V O Z) Z Z ( bv O hx Z Z Z Z (wI (t := s.sum) h1 h2) (.cons (.c (.sub Z)) .nil) Z Z Z Z Z Z Z (B0 := 98000) Z ( ab hx Z Z Z (V O Z) Z Z ( AN.nil)))))) Z Z (aa (ao O Z Z Z Z Z) Z Z Z (js O Z (bc [(100, _), (5, _), (4, _), (2, _), (0, _)] [] ⟨Z, Z, Z, Z, Z, trivial⟩ Z (ax 9 Z Z Z (fun hx => ab hx Z Z Z (V O Z) Z Z ( ab hx Z Z Z (V O Z) Z Z ( ab hx Z Z Z (V O Z) Z Z ( gC 5 Z Z Z Z (fun hx' => ab hx' Z Z Z (V O Z) Z Z ( ab hx' Z Z Z (V O Z) Z Z ( ab hx' Z Z Z (V O Z) Z Z ( bv O hx' Z Z Z Z (wI (t := s.index) h1 h2) (.cons (.c (.sub Z)) .nil) Z Z Z Z Z Z Z (B0 := 108000) Z ( ab hx' Z Z Z (V O Z) Z Z ( AN.nil)))))) Z Z ( ab hx Z Z Z (ao O Z Z Z Z Z) Z Z ( AN.nil)))))) Z Z (aa (aQ O Z Z Z Z Z) Z Z Z (js O Z (bc [(111, _), (5, _), (2, _), (0, _)] [] ⟨Z, Z, Z, Z, trivial⟩ Z (ax 13 Z Z Z (fun hx => ab hx Z Z Z (V O Z) Z Z ( ab hx Z Z Z (V O Z) Z Z ( ab hx Z Z Z (V O Z) Z Z ( ab hx Z Z Z (V O Z) Z Z ( ab hx Z Z Z (V O Z) Z Z ( ab hx Z Z Z (V O Z) Z Z ( gC 6 Z Z Z Z (fun hx' => ab hx' Z Z Z (V O Z) Z Z ( ab hx' Z Z Z (V O Z) Z Z ( ab hx' Z Z Z (V O Z) Z Z ( ab hx' Z Z Z (V O Z) Z Z ( ab hx' Z Z Z (bG O Z Z Z Z Z Z Z Z) Z Z ( ab hx' Z Z Z (V O Z) Z Z ( AN.nil))))))) Z Z ( ab hx Z Z Z (ao O Z Z Z Z Z) Z Z ( AN.nil))))))))) Z Z (aa (aQ O Z Z Z Z Z) Z Z Z (jf [125,5,2,0] Z (jn (af O Z Z (fun hc125 => ?_) (fun hc125 => ?_))))))))))))))))))
 refine ag (js O Z (jr ?_))
 refine ⟨.inl Z, _, ar, _, Z, ?_⟩
 rw [bb, show nk s = false from hc90, show qp s = true from hc125]; rfl
 refine an (ah (ag (j2 O Z Z (bc [(127, _), (5, _), (2, _), (0, _)] [] ⟨Z, Z, Z, Z, trivial⟩ Z (ax 6 Z Z Z (fun hx => ab hx Z Z Z (V O Z) Z Z ( ab hx Z Z Z (V O Z) Z Z ( ab hx Z Z Z (V O Z) Z Z ( ab hx Z Z Z (V O Z) Z Z ( bv O hx Z Z Z Z (wh h1 h2) (ac Z) Z Z Z Z Z Z Z (B0 := 133000) Z ( ab hx Z Z Z (V O Z) Z Z ( AN.nil))))))) Z Z (aa (ao O Z Z Z Z Z) Z Z Z (js O Z (bc [(135, _), (5, _), (2, _), (0, _)] [] ⟨Z, Z, Z, Z, trivial⟩ Z (ax 9 Z Z Z (fun hx => ab hx Z Z Z (V O Z) Z Z ( ab hx Z Z Z (V O Z) Z Z ( ab hx Z Z Z (V O Z) Z Z ( gC 5 Z Z Z Z (fun hx' => ab hx' Z Z Z (V O Z) Z Z ( ab hx' Z Z Z (V O Z) Z Z ( ab hx' Z Z Z (V O Z) Z Z ( ab hx' Z Z Z (V O Z) Z Z ( ab hx' Z Z Z (V O Z) Z Z ( AN.nil)))))) Z Z ( ab hx Z Z Z (ao O Z Z Z Z Z) Z Z ( AN.nil)))))) Z Z (aa (aQ O Z Z Z Z Z) Z Z Z (jf [145,2,0] Z (jn (af O Z Z (fun hc145 => ?_) (fun hc145 => ?_))))))))))))))
 refine ag (js O Z (jr ?_))
 refine ⟨.inl Z, _, ar, _, Z, ?_⟩
 rw [bb, show nk s = false from hc90, show qp s = false from hc125, show qY s = true from hc145]; rfl
 refine an (ah (ag (j4 O Z Z Z Z (js O Z (jf [150,2,0] Z (jn (af O Z Z (fun hc150 => ?_) (fun hc150 => ?_))))))))
 refine ag (j4 O Z Z Z Z (bc [(154, _), (2, _), (0, _)] [] ⟨Z, Z, Z, trivial⟩ Z (aA O Z Z Z Z (wh h1 h2) (ac Z) Z Z Z Z Z (B0 := 156000) Z (js O Z (jf [2,0] Z (jr ?_))))))
 refine ⟨.inl Z, _, ar, _, Z, ?_⟩
 rw [bb, show nk s = false from hc90, show qp s = false from hc125, show qY s = false from hc145, hc150]; rfl
 refine an (ag (j4 O Z Z Z Z (j2 O Z Z (jf [2,0] Z (jr ?_)))))
 refine ⟨.inl Z, _, ar, _, Z, ?_⟩
 rw [bb, show nk s = false from hc90, show qp s = false from hc125, show qY s = false from hc145, hc150]; rfl
theorem zd {b : List Sm} : MQ h1 h2 79 [.c (.d (go b))] [] (Plain (eB (gn b))) := by
 refine aP ?_ Z
 refine jB 24 h1 h2 Tryz.func79 Z Z Z fun O hF => ?_
 have hl : b.length ≤ L := by simpa [As.fact, A.fact, M.fact, D.fact, Ds.fact] using hF.1.1
 refine ag (js O Z (jn (ah (ag (js O Z (dn O Z (aA O Z Z Z Z (wh h1 h2) (ac Z) Z Z Z Z Z (B0 := 7000) Z (js O Z (jn (af O Z Z (fun hc7 => ?_) (fun hc7 => ?_)))))))))))
 try simp only [bL] at hc7
 refine ag (js O Z (jr ?_))
 refine ⟨.inl Z, _, ar, _, Z, ?_⟩
 rw [gn, show (decide ((1 : Int) ≤ b.length) && decide ((b.length : Int) ≤ 30)) = false from hc7, Bool.false_and]
 try simp only [bL] at hc7
 refine an (ah (ag (js O Z (jn (aw (aE (X := Nat) (fun i => ⟨[(0, .c (.d (go b))), (3, eI i)], []⟩) (fun i => i ≤ b.length ∧ ∀ j (h : j < b.length), j < i → bb b[j] = true) (fun i => b.length - i) 0 (Ent.env ⟨Z, Z, trivial⟩) ?_ (fun i hi => ?_)))))))
 exact ⟨dm _, fun j h hj => absurd hj (Nat.not_lt_zero j)⟩
 refine ah (ag (j2 O Z Z (dn O Z (js O Z (jn (af O Z Z (fun hc11 => ?_) (fun hc11 => ?_)))))))
 try simp only [bL] at hc11
 refine an (ah (aw (ag (j2 O Z Z (nq O Z Z (aA O Z Z Z Z (y7 h1 h2) (ac Z) Z Z Z Z Z (B0 := 18000) Z (js O Z (jn (af O Z Z (fun hc18 => ?_) (fun hc18 => ?_))))))))))
 try simp only [bL] at hc18
 refine ag (js O Z (jr ?_))
 refine ⟨.inl Z, _, ar, _, Z, ?_⟩
 rw [Int.toNat_natCast, aK (by omega)] at hc18
 rw [gn, fG i (by omega) hc18, Bool.false_and, Bool.and_false]
 try simp only [bL] at hc18
 refine an (am (js O Z (ji O Z (js O Z (jn ?_)))))
 refine ⟨i + 1, Ent.env ⟨Z, Z, trivial⟩, ⟨by omega, fun j h hj => ?_⟩, by omega⟩
 by_cases e : j = i
 subst e; rw [Int.toNat_natCast, aK h] at hc18; exact hc18
 exact hi.2 j h (by omega)
 try simp only [bL] at hc11
 refine bt (ag (js O Z (aA O Z Z Z Z (zc (k := 0) h1 h2 (dm _)) (ac Z) Z Z Z Z Z (B0 := 21000) Z (js O Z (dn O Z (j2 O Z Z (jr ?_)))))))
 refine ⟨.inl Z, _, ar, _, Z, ?_⟩
 rw [gn, show (decide ((1 : Int) ≤ b.length) && decide ((b.length : Int) ≤ 30)) = true from hc7, gc (fun j hj => hi.2 j hj (by omega)), Bool.true_and, Bool.true_and]
theorem yj {p : Pm} : MQ h1 h2 42 [ptr p.data] [] (Plain (eB (eJ p))) := by
 refine aP ?_ Z
 refine jB 22 h1 h2 Tryz.func42 Z Z Z fun O hF => ?_
 refine ag (js O Z (bf (j4 O Z Z Z Z (bc [(6, _), (2, _), (0, _)] [] ⟨Z, Z, Z, trivial⟩ Z (aA O Z Z Z Z (uE h1 h2) (ac Z) Z Z Z Z Z (B0 := 8000) Z (js O Z (bc [(8, _), (2, _), (0, _)] [] ⟨Z, Z, Z, trivial⟩ Z (ax 5 Z Z Z (fun hx => ab hx Z Z Z (V O Z) Z Z ( ab hx Z Z Z (V O Z) Z Z ( ab hx Z Z Z (V O Z) Z Z ( ab hx Z Z Z (V O Z) Z Z ( bv O hx Z Z Z Z (zd h1 h2) (ac Z) Z Z Z Z Z Z Z (B0 := 14000) Z ( AN.nil)))))) Z Z (aa (ao O Z Z Z Z Z) Z Z Z (js O Z (bc [(15, _), (2, _), (0, _)] [] ⟨Z, Z, Z, trivial⟩ Z (ax 5 Z Z Z (fun hx => ab hx Z Z Z (V O Z) Z Z ( ab hx Z Z Z (V O Z) Z Z ( ab hx Z Z Z (V O Z) Z Z ( ab hx Z Z Z (V O Z) Z Z ( bv O hx Z Z Z Z (uE h1 h2) (ac Z) Z Z Z Z Z Z Z (B0 := 21000) Z ( AN.nil)))))) Z Z (aa (ao O Z Z Z Z Z) Z Z Z (js O Z (jf [2] Z (jr ?_))))))))))))))))
 refine ⟨.inl Z, _, ar, _, Z, ?_⟩
 rw [Bool.cond_false_right, Bool.cond_false_right, Bool.and_assoc]; rfl
variable {vars : List Int}
theorem zb {cells : List Int} (h : t.term = true) (hv : b9 vars 4 = true) : MQ h1 h2 74 [ptr t.cells, ptr [c7 vars, c7 cells]] [] (Plain (eI (dQ t vars))) := by
 refine aP ?_ Z
 refine jB 38 h1 h2 Tryz.func74 Z Z Z fun O hF => ?_
 have ht := kX h
 have hs := jS hv
 have hlen : t.xs.length ≤ vars.length := by omega
 refine ag (js O Z (bf (j4 O Z Z Z Z (js O Z (jf [5,4,0,1] Z (jn (ah (ag (js O Z (jn (aw (aE (X := Nat) (fun i => ⟨[(0, ptr t.cells), (1, ptr [c7 vars, c7 cells]), (5, eI (t.c + iY (t.xs.take i) (vars.take i))), (6, eI i)], []⟩) (fun i => i ≤ t.xs.length) (fun i => t.xs.length - i) 0 (Ent.env ⟨Z, Z, by simp [iY, cI, az], Z, trivial⟩) ?_ (fun i hi => ?_)))))))))))))
 exact dm _
 refine ah (ag (j4 O Z Z Z Z (js O Z (dn O Z (js O Z (jf [17,0,1,5,6] Z (jn (af O Z Z (fun hc17 => ?_) (fun hc17 => ?_)))))))))
 try simp only [bL] at hc17
 refine an (ah (aw ?_))
 have hd := mK ht.2.1 hs.1 hi (Nat.le_trans hi hlen)
 have hds := gK (xs := t.xs) (ys := vars) (i := i) (by omega) (by omega)
 have hn := ya.1 ht.1
 have hm := mH (ya.1 (List.all_eq_true.1 ht.2.1 _ (List.getElem_mem (show i < t.xs.length by omega)))) (yd.1 (List.all_eq_true.1 hs.1 _ (List.getElem_mem (show i < vars.length by omega))))
 rw [← aK (show i < t.xs.length by omega), ← aK (show i < vars.length by omega)] at hm
 refine gv O [_,_,_,_,_,_,_,_,_,_,_,_,_,_,_,_,_,_] [pn [] 0 0, pn [] 0 0, pn [1] 0 0, pn [1,2] 0 0, pn [1,2,3] 0 0, pn [] 0 0, pn (rg 1 5) 0 0, pn (rg 1 6) 0 0, pn [] 0 0, pn [8] 0 0, pn [8,9] 0 0, pn [8,9,10] 0 0, pn [] 0 0, pn (rg 8 5) 0 0, pn (rg 8 6) 0 0, pn (rg 1 14) 0 0, pn (rg 0 16) 0 0, pn (rg 0 17) 0 0] [] [_] (kc O Z (kc O Z (kc O Z (kc O Z (kc O Z (kc O Z (ai (vD O Z) (kc O Z (kc O Z (kc O Z (kc O Z (kc O Z (kc O Z (ai (vD O Z) (kc O Z (ai (aN O Z Z (Int.le_trans (by decide) hm.1) (Int.le_trans hm.2 (by decide))) (ai (aN O Z Z (show (-9223372036854775808 : Int) ≤ t.c + iY (t.xs.take i) (vars.take i) + t.xs.getD i default * vars.getD i default by omega) (show t.c + iY (t.xs.take i) (vars.take i) + t.xs.getD i default * vars.getD i default ≤ 9223372036854775807 by omega)) (kc O Z trivial)))))))))))))))))) ?_
 refine kK (Ent.to (e' := [(5, _), (17, _), (0, _), (1, _), (6, _)]) (H' := []) ⟨Z, Z, Z, Z, Z, trivial⟩ Z) (am (js O Z (ji O Z (js O Z (jf [6,5,17,0,1] Z (jn ?_))))))
 refine ⟨i + 1, Ent.to ⟨Z, Z, ?_, Z, trivial⟩ Z, by omega, by omega⟩
 exact congrArg (fun z => some (eI z)) (by rw [hds]; show t.c + iY (t.xs.take i) (vars.take i) + t.xs.getD i default * vars.getD i default = _; omega)
 try simp only [bL] at hc17
 refine bt (ag (j2 O Z Z (jr ?_)))
 refine ⟨.inl Z, _, ar, _, Z, ?_⟩
 obtain rfl : i = t.xs.length := by omega
 rw [kI (cz _)]; rfl
theorem y4 (h : t.term = true) (hv : b9 vars 4 = true) : MQ h1 h2 129 [.agg (t.cells.map .d), cm vars] [] (Plain (eI (dQ t vars))) := by
 refine aP ?_ Z
 refine jB 28 h1 h2 Tryz.func129 Z Z Z fun O hF => ?_
 have ht := kX h
 have hs := jS hv
 have hlen : t.xs.length ≤ vars.length := by omega
 refine ag (jx O Z (js O Z (bf (j3 O Z Z Z (jn (ah (ag (j2 O Z Z (dn O Z (js O Z (jn (aw (aE (X := Nat) (fun i => ⟨[(1, cm vars), (5, eI (t.c + iY (t.xs.take i) (vars.take i))), (11, .c (.d (c7 t.xs))), (12, eI t.xs.length), (13, eI i)], []⟩) (fun i => i ≤ t.xs.length) (fun i => t.xs.length - i) 0 (au [] Z Z ⟨Z, by simp [iY, cI, az], Z, by simp [az], Z, trivial⟩ Z) ?_ (fun i hi => ?_))))))))))))))
 exact dm _
 refine ag (js O Z (jn (ah (af O Z Z (fun hc14 => ?_) (fun hc14 => ?_)))))
 try simp only [bL] at hc14
 refine an (ah (aw (ag (js O Z (nq O Z Z (j3 O Z Z Z (jn (am (j4 O Z Z Z Z (nq O Z Z (js O Z ?_)))))))))))
 have hd := mK ht.2.1 hs.1 hi (Nat.le_trans hi hlen)
 have hds := gK (xs := t.xs) (ys := vars) (i := i) (by omega) (by omega)
 have hn := ya.1 ht.1
 have hm := mH (ya.1 (List.all_eq_true.1 ht.2.1 _ (List.getElem_mem (show i < t.xs.length by omega)))) (yd.1 (List.all_eq_true.1 hs.1 _ (List.getElem_mem (show i < vars.length by omega))))
 rw [← aK (show i < t.xs.length by omega), ← aK (show i < vars.length by omega)] at hm
 refine aa (aN O Z Z (Int.le_trans (by decide) hm.1) (Int.le_trans hm.2 (by decide))) Z Z Z (aa (aN O Z Z (show (-9223372036854775808 : Int) ≤ t.c + iY (t.xs.take i) (vars.take i) + t.xs.getD i default * vars.getD i default by omega) (show t.c + iY (t.xs.take i) (vars.take i) + t.xs.getD i default * vars.getD i default ≤ 9223372036854775807 by omega)) Z Z Z (js O Z (jn (am (ji O Z (js O Z (jn ?_)))))))
 refine ⟨i + 1, Ent.to ⟨Z, ?_, Z, Z, Z, trivial⟩ Z, by omega, by omega⟩
 exact congrArg (fun z => some (eI z)) (by rw [hds]; show t.c + iY (t.xs.take i) (vars.take i) + t.xs.getD i default * vars.getD i default = _; omega)
 try simp only [bL] at hc14
 refine bt (ag (j2 O Z Z (jr ?_)))
 refine ⟨.inl Z, _, ar, _, Z, ?_⟩
 obtain rfl : i = t.xs.length := by omega
 rw [kI (cz _)]; rfl
abbrev cP (t : Tm) : A := .agg (t.cells.map .d)
def gp (lo hi x : Int) : Bool := decide (lo ≤ x) && decide (x ≤ hi)

variable {x : Int}
theorem rv {lo hi : Int} : MQ h1 h2 84 [eI x, eI lo, eI hi] [] (Plain (eB (gp lo hi x))) := by
 refine aP ?_ Z
 refine jB 15 h1 h2 Tryz.func84 Z Z Z fun O hF => ?_
 refine ag (js O Z (bf (j4 O Z Z Z Z (ax 3 Z Z Z (fun hx => ab hx Z Z Z (V O Z) Z Z ( ab hx Z Z Z (V O Z) Z Z ( ab hx Z Z Z (V O Z) Z Z ( AN.nil)))) Z Z (aa (ao O Z Z Z Z Z) Z Z Z (js O Z (jr ?_)))))))
 refine ⟨.inl Z, _, ar, _, Z, ?_⟩
 rw [Bool.cond_false_right]; rfl
variable {xs : List Int}
theorem uA {lo hi : Int} : MQ h1 h2 125 [cm xs, eI lo, eI hi] [] (Plain (eB (xs.all (gp lo hi)))) := by
 refine aP ?_ Z
 refine jB 21 h1 h2 Tryz.func125 Z Z Z fun O hF => ?_
 have hl : xs.length ≤ L := by simpa [As.fact, A.fact, M.fact, D.fact, Ds.fact] using hF.1.1
 refine ag (js O Z (jn (ah (ag (js O Z (dn O Z (js O Z (jn (aw (aE (X := Nat) (fun i => ⟨[(1, eI lo), (2, eI hi), (9, cm xs), (10, eI xs.length), (11, eI i)], []⟩) (fun i => i ≤ xs.length ∧ ∀ j (h : j < xs.length), j < i → gp lo hi xs[j] = true) (fun i => xs.length - i) 0 (Ent.env ⟨Z, Z, Z, Z, Z, trivial⟩) ?_ (fun i hi => ?_)))))))))))
 exact ⟨dm _, fun j h hj => absurd hj (Nat.not_lt_zero j)⟩
 refine ag (js O Z (jn (ah (af O Z Z (fun hc12 => ?_) (fun hc12 => ?_)))))
 try simp only [bL] at hc12
 refine an (ah (aw (ag (nq O Z Z (j2 O Z Z (bf (j3 O Z Z Z (aA O Z Z Z Z (rv h1 h2) (ac Z) Z Z Z Z Z (B0 := 19000) Z (js O Z (jn (af O Z Z (fun hc19 => ?_) (fun hc19 => ?_))))))))))))
 try simp only [bL] at hc19
 refine ag (js O Z (jr ?_))
 refine ⟨.inl Z, _, ar, _, Z, ?_⟩
 rw [Int.toNat_natCast, aK (by omega)] at hc19
 rw [fG i (by omega) hc19]
 try simp only [bL] at hc19
 refine an (am (ji O Z (js O Z (jn ?_))))
 refine ⟨i + 1, Ent.env ⟨Z, Z, Z, Z, Z, trivial⟩, ⟨by omega, fun j h hj => ?_⟩, by omega⟩
 by_cases e : j = i
 subst e; rw [Int.toNat_natCast, aK h] at hc19; exact hc19
 exact hi.2 j h (by omega)
 try simp only [bL] at hc12
 refine bt (ag (js O Z (jr ?_)))
 refine ⟨.inl Z, _, ar, _, Z, ?_⟩
 rw [gc (fun j hj => hi.2 j hj (by omega))]
theorem yZ : MQ h1 h2 175 [eI x] [] (Plain (eB (num x))) := by
 refine aP ?_ Z
 refine jB 5 h1 h2 Tryz.func175 Z Z Z fun O hF => ?_
 refine ag (js O Z (bf (js O Z (aA O Z Z Z Z (rv h1 h2) (ac Z) Z Z Z Z Z (B0 := 5000) Z (js O Z (jr ?_))))))
 refine ⟨.inl Z, _, ar, _, Z, ?_⟩
 first | rfl | skip
theorem tp (t : Tm) : (bif bif bif decide ((t.xs.length : Int) ≤ 10) then num t.c else false then t.xs.all num else false then bif decide ((t.xs.length : Int) = 0) then true else !decide (t.xs.getD ((t.xs.length : Int) - 1).toNat default = 0) else false) = t.ok := by
 unfold Tm.ok
 cases num t.c <;> cases t.xs.all num <;> simp
 by_cases h0 : t.xs = []
 simp [h0]
 have h1 : 0 < t.xs.length := List.length_pos_iff.2 h0
 by_cases h2 : (t.xs.length : Int) ≤ 10
 have h3 : ¬ (10 : Int) < t.xs.length := by omega
 simp [h0, h1, h2, h3]
 have h3 : (10 : Int) < t.xs.length := by omega
 simp [h2, h3]
theorem nA : MQ h1 h2 134 [cP t] [] (Plain (eB t.ok)) := by
 refine aP ?_ Z
 refine jB 32 h1 h2 Tryz.func134 Z Z Z fun O hF => ?_
 have hl : t.xs.length ≤ L := by simpa [As.fact, A.fact, M.fact, Ms.fact, D.fact, Ds.fact] using hF.1.2.1.1
 refine ag (jx O Z (js O Z (bf (j2 O Z Z (dn O Z (js O Z (jf [3,2,1,0] Z (bf (j3 O Z Z Z (jf [9,3,2,1,0] Z (ax 3 Z Z Z (fun hx => ab hx Z Z Z (V O Z) Z Z ( ab hx Z Z Z (V O Z) Z Z ( bv O hx Z Z Z Z (yZ h1 h2) (ac Z) Z Z Z Z Z Z Z (B0 := 13000) Z ( AN.nil)))) Z Z (aa (ao O Z Z Z Z Z) Z Z Z (js O Z (jf [14,3,2,1,0] Z (ax 3 Z Z Z (fun hx => ab hx Z Z Z (V O Z) Z Z ( ab hx Z Z Z (V O Z) Z Z ( bv O hx Z Z Z Z (uA h1 h2) (ac Z) Z Z Z Z Z Z Z (B0 := 18000) Z ( AN.nil)))) Z Z (aa (ao O Z Z Z Z Z) Z Z Z (js O Z (jf [19,3,2,1,0] Z (ax 11 Z Z Z (fun hx => ab hx Z Z Z (V O Z) Z Z ( ab hx Z Z Z (V O Z) Z Z ( ab hx Z Z Z (V O Z) Z Z ( gC 7 Z Z Z Z (fun hx' => ab hx' Z Z Z (V O Z) Z Z ( ab hx' Z Z Z (V O Z) Z Z ( ab hx' Z Z Z (V O Z) Z Z ( ab hx' Z Z Z (aN O Z Z (by first | omega | (simp only [bL] at *; omega)) (by first | omega | (simp only [bL] at *; omega))) Z Z ( ab hx' Z Z Z (bD O Z Z Z Z Z Z Z Z (by first | omega | (simp only [bL] at *; omega)) (kG (by first | omega | (simp only [bL] at *; omega)) (by first | omega | (simp only [bL] at *; omega)))) Z Z ( ab hx' Z Z Z (V O Z) Z Z ( ab hx' Z Z Z (V O Z) Z Z ( AN.nil)))))))) Z Z ( ab hx Z Z Z (aQ O Z Z Z Z Z) Z Z ( AN.nil)))))) Z Z (aa (ao O Z Z Z Z Z) Z Z Z (js O Z (jf [2,1,0] Z (jr ?_)))))))))))))))))))))))
 refine ⟨.inl Z, _, ar, _, Z, ?_⟩
 exact congrArg eB (tp t)
theorem nB : MQ h1 h2 138 [cP t] [] (Plain (eB t.term)) := by
 refine aP ?_ Z
 refine jB 11 h1 h2 Tryz.func138 Z Z Z fun O hF => ?_
 refine ag (jx O Z (js O Z (bf (js O Z (aA O Z Z Z Z (nA h1 h2) (ac Z) Z Z Z Z Z (B0 := 5000) Z (js O Z (jf [5,2,1,0] Z (ax 4 Z Z Z (fun hx => ab hx Z Z Z (V O Z) Z Z ( ab hx Z Z Z (V O Z) Z Z ( ab hx Z Z Z (bG O Z Z Z Z Z Z Z Z) Z Z ( ab hx Z Z Z (V O Z) Z Z ( AN.nil))))) Z Z (aa (ao O Z Z Z Z Z) Z Z Z (js O Z (jf [2,0] Z (jr ?_))))))))))))
 refine ⟨.inl Z, _, ar, _, Z, ?_⟩
 rw [Bool.cond_false_right]; rfl
theorem wC : MQ h1 h2 195 [cP t] [] (Plain (eB t.zero)) := by
 refine aP ?_ Z
 refine jB 12 h1 h2 Tryz.func195 Z Z Z fun O hF => ?_
 refine ag (jx O Z (js O Z (bf (j4 O Z Z Z Z (jf [6,2,1,0] Z (ax 4 Z Z Z (fun hx => ab hx Z Z Z (V O Z) Z Z ( ab hx Z Z Z (V O Z) Z Z ( ab hx Z Z Z (bG O Z Z Z Z Z Z Z Z) Z Z ( ab hx Z Z Z (V O Z) Z Z ( AN.nil))))) Z Z (aa (ao O Z Z Z Z Z) Z Z Z (js O Z (jf [2,0] Z (jr ?_))))))))))
 refine ⟨.inl Z, _, ar, _, Z, ?_⟩
 rw [Bool.cond_false_right]; rfl
theorem y2 : MQ h1 h2 137 [cP t] [] (Plain (eB !t.term)) := by
 refine aP ?_ Z
 refine jB 6 h1 h2 Tryz.func137 Z Z Z fun O hF => ?_
 refine ag (jx O Z (js O Z (bf (js O Z (jf [3,2,0] Z (aA O Z Z Z Z (nB h1 h2) (ac Z) Z Z Z Z Z (B0 := 5000) Z (j2 O Z Z (jf [2,0] Z (jr ?_)))))))))
 refine ⟨.inl Z, _, ar, _, Z, ?_⟩
 first | rfl | skip
def oo (ts : List Tm) : Int := if ts.all Tm.term = true then -1 else (ts.findIdx fun t => !t.term : Nat)
theorem sL {ts : List Tm} (h : ∀ j (hj : j < ts.length), Tm.term ts[j] = true) : oo ts = -1 := by rw [oo, if_pos (gc h)]
theorem tH {ts : List Tm} {i : Nat} (hi : i < ts.length) (h : ∀ j (hj : j < ts.length), j < i → Tm.term ts[j] = true) (hn : Tm.term ts[i] = false) : oo ts = i := by
 rw [oo, if_neg (by rw [fG i hi hn]; decide)]
 exact congrArg Nat.cast ((List.findIdx_eq hi).2 ⟨by simp [hn], fun j hj => by simp [h j (by omega) hj]⟩)
theorem sK {ts : List Tm} : decide (oo ts ≥ 0) = !ts.all Tm.term := by
 unfold oo
 cases h : ts.all Tm.term <;> simp
theorem yV : MQ h1 h2 176 [b0 ts, .c (.fn 137 [])] [] (Plain (eI (oo ts))) := by
 refine aP ?_ Z
 refine jB 19 h1 h2 Tryz.func176 Z Z Z fun O hF => ?_
 have hl : ts.length ≤ L := by simpa [As.fact, A.fact, M.fact, D.fact, Ds.fact] using hF.1.1
 refine ag (js O Z (jn (ah (ag (js O Z (dn O Z (js O Z (jn (aw (aE (X := Nat) (fun i => ⟨[(0, b0 ts), (1, .c (.fn 137 [])), (7, eI ts.length), (8, eI i)], []⟩) (fun i => i ≤ ts.length ∧ ∀ j (h : j < ts.length), j < i → Tm.term ts[j] = true) (fun i => ts.length - i) 0 (Ent.env ⟨Z, Z, Z, Z, trivial⟩) ?_ (fun i hi => ?_)))))))))))
 exact ⟨dm _, fun j h hj => absurd hj (Nat.not_lt_zero j)⟩
 refine ag (js O Z (jn (ah (af O Z Z (fun hc9 => ?_) (fun hc9 => ?_)))))
 try simp only [bL] at hc9
 refine an (ah (aw (ag (j2 O Z Z (bf (j3 O Z Z Z (nq O Z Z (js O Z (aA O Z Z Z Z (y2 h1 h2) (ac Z) Z Z Z Z Z (B0 := 17000) Z (jn (af O Z Z (fun hc16 => ?_) (fun hc16 => ?_))))))))))))
 try simp only [bL] at hc16
 refine ag (j2 O Z Z (jr ?_))
 refine ⟨.inl Z, _, ar, _, Z, ?_⟩
 rw [Int.toNat_natCast, aK (by omega)] at hc16
 rw [tH (by omega) hi.2 hc16]
 try simp only [bL] at hc16
 refine an (am (ji O Z (js O Z (jn ?_))))
 refine ⟨i + 1, Ent.env ⟨Z, Z, Z, Z, trivial⟩, ⟨by omega, fun j h hj => ?_⟩, by omega⟩
 by_cases e : j = i
 subst e; rw [Int.toNat_natCast, aK h] at hc16; exact hc16
 exact hi.2 j h (by omega)
 try simp only [bL] at hc9
 refine bt (ag (js O Z (jr ?_)))
 refine ⟨.inl Z, _, ar, _, Z, ?_⟩
 rw [sL (fun j hj => hi.2 j hj (by omega))]
theorem y3 : MQ h1 h2 136 [b0 ts, .c (.fn 137 [])] [] (Plain (eB !ts.all Tm.term)) := by
 refine aP ?_ Z
 refine jB 9 h1 h2 Tryz.func136 Z Z Z fun O hF => ?_
 refine ag (js O Z (bf (j2 O Z Z (aA O Z Z Z Z (yV h1 h2) (.cons (.c .d) (.cons (.c (.fn .nil)) .nil)) Z Z Z Z Z (B0 := 8000) Z (j2 O Z Z (jr ?_))))))
 refine ⟨.inl Z, _, ar, _, Z, ?_⟩
 exact congrArg eB sK
theorem te : MQ h1 h2 95 [b0 ts, eI n] [] (Plain (eB (bz ts n))) := by
 refine aP ?_ Z
 refine jB 14 h1 h2 Tryz.func95 Z Z Z fun O hF => ?_
 refine ag (js O Z (bf (js O Z (dn O Z (j3 O Z Z Z (ax 3 Z Z Z (fun hx => ab hx Z Z Z (V O Z) Z Z ( bv O hx Z Z Z Z (y3 h1 h2) (.cons (.c .d) (.cons (.c (.fn .nil)) .nil)) Z Z Z Z Z Z Z (B0 := 12000) Z ( ab hx Z Z Z (V O Z) Z Z ( AN.nil)))) Z Z (aa (ao O Z Z Z Z Z) Z Z Z (js O Z (jr ?_)))))))))
 refine ⟨.inl Z, _, ar, _, Z, ?_⟩
 rw [Bool.cond_false_right, Bool.not_not, Bool.and_comm]; rfl
theorem wF : MQ h1 h2 196 [eI x] [] (Plain (eB (gp 0 3 x))) := by
 refine aP ?_ Z
 refine jB 5 h1 h2 Tryz.func196 Z Z Z fun O hF => ?_
 refine ag (js O Z (bf (js O Z (aA O Z Z Z Z (rv h1 h2) (ac Z) Z Z Z Z Z (B0 := 5000) Z (js O Z (jr ?_))))))
 refine ⟨.inl Z, _, ar, _, Z, ?_⟩
 first | rfl | skip
theorem yW : MQ h1 h2 197 [eI x] [] (Plain (eB (gp 0 3 x))) := by
 refine aP ?_ Z
 refine jB 5 h1 h2 Tryz.func197 Z Z Z fun O hF => ?_
 refine ag (js O Z (bf (js O Z (aA O Z Z Z Z (rv h1 h2) (ac Z) Z Z Z Z Z (B0 := 5000) Z (js O Z (jr ?_))))))
 refine ⟨.inl Z, _, ar, _, Z, ?_⟩
 first | rfl | skip
def bK (s : Sm) : Int := if bb s = true then ba s.kind else -1

theorem bI {t : Tm} (h : t.zero = true) : t.term = true := by
 simp only [Tm.zero, bJ, decide_eq_true_eq] at h
 obtain ⟨h1, h2⟩ := h
 have h3 : t.xs = [] := List.eq_nil_of_length_eq_zero (by omega)
 simp [Tm.term, Tm.ok, num, h1, h3]
theorem ga {ts : List Tm} (h : decide ((ts.length : Int) = 0) = true) : bz ts 6 = true := by
 have h3 : ts = [] := List.eq_nil_of_length_eq_zero (by have := bp h; omega)
 subst h3; rfl
theorem f9 {ts : List Tm} : decide ((0 : Int) < ts.length) = !decide ((ts.length : Int) = 0) := by
 by_cases h : (ts.length : Int) = 0
 simp [h]
 have : (0 : Int) < ts.length := by omega
 simp only [h, this, decide_true, decide_false, Bool.not_false]
def mD (n8 st it tf su sz ix iz k8 fp na v3 v0 k5 e3 e0 : Bool) : Bool :=
  bif (bif (bif (bif !n8 then true else !st) then true else !it) then true else !tf) then false
  else bif (bif (bif (bif !su then !sz else false) then true else (bif !ix then !iz else false)) then true else (bif !k8 then fp else false)) then false
  else bif (bif (bif na then !v3 else false) then true else (bif !na then !v0 else false)) then false
  else bif k5 then e3 else e0
theorem kb0 : ∀ st it tf sz iz f0 v3 v0 e3 e0 : Bool, (sz = true → st = true) → (iz = true → it = true) → (f0 = true → tf = true) → mD true st it tf false sz false iz false (!f0) false v3 v0 false e3 e0 = (bif (bif (bif (bif v0 then e0 else false) then sz else false) then iz else false) then f0 else false) := by decide
theorem wv (s : Sm) (hk : decide (s.kind = 0) = true) : bb s = (bif (bif (bif (bif decide (s.var = 0) then decide (s.event = 0) else false) then s.sum.zero else false) then s.index.zero else false) then decide ((s.facts.length : Int) = 0) else false) := by
 rw [← kb0 s.sum.term s.index.term (bz s.facts 6) s.sum.zero s.index.zero (decide ((s.facts.length : Int) = 0)) (gp 0 3 s.var) (decide (s.var = 0)) (gp 0 3 s.event) (decide (s.event = 0)) bI bI ga, ← f9]
 cases s with
 | mk kind var event sum index facts =>
  have hk := bp hk
  simp only at hk
  subst hk
  rfl
theorem kb1 : ∀ st it tf sz iz f0 v3 v0 e3 e0 : Bool, (sz = true → st = true) → (iz = true → it = true) → (f0 = true → tf = true) → mD true st it tf false sz false iz false (!f0) false v3 v0 false e3 e0 = (bif (bif (bif (bif v0 then e0 else false) then sz else false) then iz else false) then f0 else false) := by decide
theorem wu (s : Sm) (hk : decide (s.kind = 1) = true) : bb s = (bif (bif (bif (bif decide (s.var = 0) then decide (s.event = 0) else false) then s.sum.zero else false) then s.index.zero else false) then decide ((s.facts.length : Int) = 0) else false) := by
 rw [← kb1 s.sum.term s.index.term (bz s.facts 6) s.sum.zero s.index.zero (decide ((s.facts.length : Int) = 0)) (gp 0 3 s.var) (decide (s.var = 0)) (gp 0 3 s.event) (decide (s.event = 0)) bI bI ga, ← f9]
 cases s with
 | mk kind var event sum index facts =>
  have hk := bp hk
  simp only at hk
  subst hk
  rfl
theorem kb2 : ∀ st it tf sz iz f0 v3 v0 e3 e0 : Bool, (sz = true → st = true) → (iz = true → it = true) → (f0 = true → tf = true) → mD true st it tf true sz false iz false (!f0) true v3 v0 false e3 e0 = (bif (bif (bif (bif v3 then e0 else false) then st else false) then iz else false) then f0 else false) := by decide
theorem wt (s : Sm) (hk : decide (s.kind = 2) = true) : bb s = (bif (bif (bif (bif gp 0 3 s.var then decide (s.event = 0) else false) then s.sum.term else false) then s.index.zero else false) then decide ((s.facts.length : Int) = 0) else false) := by
 rw [← kb2 s.sum.term s.index.term (bz s.facts 6) s.sum.zero s.index.zero (decide ((s.facts.length : Int) = 0)) (gp 0 3 s.var) (decide (s.var = 0)) (gp 0 3 s.event) (decide (s.event = 0)) bI bI ga, ← f9]
 cases s with
 | mk kind var event sum index facts =>
  have hk := bp hk
  simp only at hk
  subst hk
  rfl
theorem kb3 : ∀ st it tf sz iz f0 v3 v0 e3 e0 : Bool, (sz = true → st = true) → (iz = true → it = true) → (f0 = true → tf = true) → mD true st it tf false sz true iz false (!f0) true v3 v0 false e3 e0 = (bif (bif (bif (bif v3 then e0 else false) then sz else false) then it else false) then f0 else false) := by decide
theorem wr (s : Sm) (hk : decide (s.kind = 3) = true) : bb s = (bif (bif (bif (bif gp 0 3 s.var then decide (s.event = 0) else false) then s.sum.zero else false) then s.index.term else false) then decide ((s.facts.length : Int) = 0) else false) := by
 rw [← kb3 s.sum.term s.index.term (bz s.facts 6) s.sum.zero s.index.zero (decide ((s.facts.length : Int) = 0)) (gp 0 3 s.var) (decide (s.var = 0)) (gp 0 3 s.event) (decide (s.event = 0)) bI bI ga, ← f9]
 cases s with
 | mk kind var event sum index facts =>
  have hk := bp hk
  simp only at hk
  subst hk
  rfl
theorem kb4 : ∀ st it tf sz iz f0 v3 v0 e3 e0 : Bool, (sz = true → st = true) → (iz = true → it = true) → (f0 = true → tf = true) → mD true st it tf true sz true iz false (!f0) false v3 v0 false e3 e0 = (bif (bif (bif (bif v0 then e0 else false) then st else false) then it else false) then f0 else false) := by decide
theorem wq (s : Sm) (hk : decide (s.kind = 4) = true) : bb s = (bif (bif (bif (bif decide (s.var = 0) then decide (s.event = 0) else false) then s.sum.term else false) then s.index.term else false) then decide ((s.facts.length : Int) = 0) else false) := by
 rw [← kb4 s.sum.term s.index.term (bz s.facts 6) s.sum.zero s.index.zero (decide ((s.facts.length : Int) = 0)) (gp 0 3 s.var) (decide (s.var = 0)) (gp 0 3 s.event) (decide (s.event = 0)) bI bI ga, ← f9]
 cases s with
 | mk kind var event sum index facts =>
  have hk := bp hk
  simp only at hk
  subst hk
  rfl
theorem kb5 : ∀ st it tf sz iz f0 v3 v0 e3 e0 : Bool, (sz = true → st = true) → (iz = true → it = true) → (f0 = true → tf = true) → mD true st it tf false sz false iz false (!f0) false v3 v0 true e3 e0 = (bif (bif (bif (bif v0 then e3 else false) then sz else false) then iz else false) then f0 else false) := by decide
theorem wo (s : Sm) (hk : decide (s.kind = 5) = true) : bb s = (bif (bif (bif (bif decide (s.var = 0) then gp 0 3 s.event else false) then s.sum.zero else false) then s.index.zero else false) then decide ((s.facts.length : Int) = 0) else false) := by
 rw [← kb5 s.sum.term s.index.term (bz s.facts 6) s.sum.zero s.index.zero (decide ((s.facts.length : Int) = 0)) (gp 0 3 s.var) (decide (s.var = 0)) (gp 0 3 s.event) (decide (s.event = 0)) bI bI ga, ← f9]
 cases s with
 | mk kind var event sum index facts =>
  have hk := bp hk
  simp only at hk
  subst hk
  rfl
theorem kb6 : ∀ st it tf sz iz f0 v3 v0 e3 e0 : Bool, (sz = true → st = true) → (iz = true → it = true) → (f0 = true → tf = true) → mD true st it tf true sz false iz false (!f0) false v3 v0 false e3 e0 = (bif (bif (bif (bif v0 then e0 else false) then st else false) then iz else false) then f0 else false) := by decide
theorem wn (s : Sm) (hk : decide (s.kind = 6) = true) : bb s = (bif (bif (bif (bif decide (s.var = 0) then decide (s.event = 0) else false) then s.sum.term else false) then s.index.zero else false) then decide ((s.facts.length : Int) = 0) else false) := by
 rw [← kb6 s.sum.term s.index.term (bz s.facts 6) s.sum.zero s.index.zero (decide ((s.facts.length : Int) = 0)) (gp 0 3 s.var) (decide (s.var = 0)) (gp 0 3 s.event) (decide (s.event = 0)) bI bI ga, ← f9]
 cases s with
 | mk kind var event sum index facts =>
  have hk := bp hk
  simp only at hk
  subst hk
  rfl
theorem kb7 : ∀ st it tf sz iz f0 v3 v0 e3 e0 : Bool, (sz = true → st = true) → (iz = true → it = true) → (f0 = true → tf = true) → mD true st it tf true sz false iz false (!f0) false v3 v0 false e3 e0 = (bif (bif (bif (bif v0 then e0 else false) then st else false) then iz else false) then f0 else false) := by decide
theorem wm (s : Sm) (hk : decide (s.kind = 7) = true) : bb s = (bif (bif (bif (bif decide (s.var = 0) then decide (s.event = 0) else false) then s.sum.term else false) then s.index.zero else false) then decide ((s.facts.length : Int) = 0) else false) := by
 rw [← kb7 s.sum.term s.index.term (bz s.facts 6) s.sum.zero s.index.zero (decide ((s.facts.length : Int) = 0)) (gp 0 3 s.var) (decide (s.var = 0)) (gp 0 3 s.event) (decide (s.event = 0)) bI bI ga, ← f9]
 cases s with
 | mk kind var event sum index facts =>
  have hk := bp hk
  simp only at hk
  subst hk
  rfl
theorem kb8 : ∀ st it tf sz iz f0 v3 v0 e3 e0 : Bool, (sz = true → st = true) → (iz = true → it = true) → (f0 = true → tf = true) → mD true st it tf true sz false iz true (!f0) false v3 v0 false e3 e0 = (bif (bif (bif (bif v0 then e0 else false) then st else false) then iz else false) then tf else false) := by decide
theorem wl (s : Sm) (hk : decide (s.kind = 8) = true) : bb s = (bif (bif (bif (bif decide (s.var = 0) then decide (s.event = 0) else false) then s.sum.term else false) then s.index.zero else false) then bz s.facts 6 else false) := by
 rw [← kb8 s.sum.term s.index.term (bz s.facts 6) s.sum.zero s.index.zero (decide ((s.facts.length : Int) = 0)) (gp 0 3 s.var) (decide (s.var = 0)) (gp 0 3 s.event) (decide (s.event = 0)) bI bI ga, ← f9]
 cases s with
 | mk kind var event sum index facts =>
  have hk := bp hk
  simp only at hk
  subst hk
  rfl
theorem yX {s : Sm} : MQ h1 h2 174 [aSm s] [] (Plain (eI (bK s))) := by
 refine aP ?_ Z
 refine jB 185 h1 h2 Tryz.func174 Z Z Z fun O hF => ?_
 refine ag (jx O Z (js O Z (jn (ah (gv O [_,_,_,_,_,_,_,_,_,_,_,_,_,_,_,_,_,_,_,_,_] [pn [] 0 2, pn [0] 0 2, pn [0,1] 0 2, pn [] 0 2, pn [3] 0 2, pn [3,4] 0 2, pn [] 0 0, pn [6] 0 0, pe [6,7] 0, pn [] 0 1, pn [9] 0 1, pe (rg 6 5) 1, pn [] 0 2, pn [12] 0 2, pn [12,13] 0 2, pn [12,13,14] 0 2, pn ([0,1,2]++rg 6 6) 2 2, pn (rg 0 12++[16]) 2 2, pn (rg 0 12++[16,17]) 2 2, pn (rg 0 12++[16,17,18]) 2 2, pn (rg 0 20) 2 2] [8,11] [_,_,_] (ai (kc O Z (kc O Z (V O Z))) (ai (kc O Z (kc O Z (V O Z))) (ai (kc O Z (kc O Z (V O Z))) (ai (kc O Z (kc O Z (V O Z))) (ai (kc O Z (kc O Z (V O Z))) (ai (kc O Z (kc O Z (V O Z))) (kc O Z (kc O Z (ai (c9 O (B0 := 18000) Z Z Z Z (wC h1 h2) (ac Z) Z Z Z Z Z) (ai (kc O Z (V O Z)) (ai (kc O Z (V O Z)) (ai (c9 O (B0 := 21000) Z Z Z Z (wC h1 h2) (ac Z) Z Z Z Z Z) (ai (kc O Z (kc O Z (V O Z))) (ai (kc O Z (kc O Z (V O Z))) (ai (ai (bG O Z Z Z Z Z Z Z Z) (ai (bG O Z Z Z Z Z Z Z Z) (bG O Z Z Z Z Z Z Z Z))) (ai (kc O Z (kc O Z (V O Z))) (kc O Z (kc O Z (kc O Z (kc O Z (kc O Z trivial))))))))))))))))))))) ?_)))))
 refine jw [7,6,5,4,3,2,1,0] Z (bQ ?_)
 refine ag (js O Z (jn (ah (ag (j2 O Z Z (jn (aw (ag (j2 O Z Z (jn (af O Z Z (fun hc27 => ?_) (fun hc27 => ?_))))))))))))
 refine ag (j2 O Z Z (jf [30,28,26,25,8,7,6,5,4,3,2,1,0] Z (ax 1 Z Z Z (fun hx => ab hx Z Z Z (V O Z) Z Z ( AN.nil)) Z Z (aa (ao O Z Z Z Z Z) Z Z Z (js O Z (jf [33,28,26,25,8,7,6,5,4,3,2,1,0] Z (ax 1 Z Z Z (fun hx => ab hx Z Z Z (V O Z) Z Z ( AN.nil)) Z Z (aa (ao O Z Z Z Z Z) Z Z Z (js O Z (jf [36,28,26,25,8,7,6,5,4,3,2,1,0] Z (ax 1 Z Z Z (fun hx => ab hx Z Z Z (V O Z) Z Z ( AN.nil)) Z Z (aa (ao O Z Z Z Z Z) Z Z Z (js O Z (jf [39,28,26,25,8,7,6,5,4,3,2,1,0] Z (ax 1 Z Z Z (fun hx => ab hx Z Z Z (V O Z) Z Z ( AN.nil)) Z Z (aa (ao O Z Z Z Z Z) Z Z Z (jf [41,28,26,25,8,7,6,5,4,3,2,1,0] Z (jn (af O Z Z (fun hc41 => ?_) (fun hc41 => ?_))))))))))))))))))))
 refine am (js O Z (jn (ag (j2 O Z Z (jf [2,28,26,25,7,6,5,4,3,1,0] Z (jr ?_))))))
 refine ⟨.inl Z, _, ar, _, Z, ?_⟩
 rw [bK, wv s hc27, hc41]
 simp [ba, bp hc27]
 refine an (ag (j2 O Z Z (jf [2,28,26,25,7,6,5,4,3,1,0] Z (jr ?_))))
 refine ⟨.inl Z, _, ar, _, Z, ?_⟩
 rw [bK, wv s hc27, hc41]
 simp
 refine ag (j2 O Z Z (jf [42,28,26,25,8,7,6,5,4,3,2,1,0] Z (jn (af O Z Z (fun hc42 => ?_) (fun hc42 => ?_)))))
 refine ag (j2 O Z Z (jf [45,28,26,25,8,7,6,5,4,3,2,1,0] Z (ax 1 Z Z Z (fun hx => ab hx Z Z Z (V O Z) Z Z ( AN.nil)) Z Z (aa (ao O Z Z Z Z Z) Z Z Z (js O Z (jf [48,28,26,25,8,7,6,5,4,3,2,1,0] Z (ax 1 Z Z Z (fun hx => ab hx Z Z Z (V O Z) Z Z ( AN.nil)) Z Z (aa (ao O Z Z Z Z Z) Z Z Z (js O Z (jf [51,28,26,25,8,7,6,5,4,3,2,1,0] Z (ax 1 Z Z Z (fun hx => ab hx Z Z Z (V O Z) Z Z ( AN.nil)) Z Z (aa (ao O Z Z Z Z Z) Z Z Z (js O Z (jf [54,28,26,25,8,7,6,5,4,3,2,1,0] Z (ax 1 Z Z Z (fun hx => ab hx Z Z Z (V O Z) Z Z ( AN.nil)) Z Z (aa (ao O Z Z Z Z Z) Z Z Z (jf [56,28,26,25,8,7,6,5,4,3,2,1,0] Z (jn (af O Z Z (fun hc56 => ?_) (fun hc56 => ?_))))))))))))))))))))
 refine am (js O Z (jn (ag (j2 O Z Z (jf [2,28,26,25,7,6,5,4,3,1,0] Z (jr ?_))))))
 refine ⟨.inl Z, _, ar, _, Z, ?_⟩
 rw [bK, wu s hc42, hc56]
 simp [ba, bp hc42]
 refine an (ag (j2 O Z Z (jf [2,28,26,25,7,6,5,4,3,1,0] Z (jr ?_))))
 refine ⟨.inl Z, _, ar, _, Z, ?_⟩
 rw [bK, wu s hc42, hc56]
 simp
 refine ag (j2 O Z Z (jf [57,28,26,25,8,7,6,5,4,3,2,1,0] Z (jn (af O Z Z (fun hc57 => ?_) (fun hc57 => ?_)))))
 refine ag (j2 O Z Z (jf [60,28,26,25,8,7,6,5,4,3,2,1,0] Z (aA O Z Z Z Z (wF h1 h2) (ac Z) Z Z Z Z Z (B0 := 62000) Z (js O Z (jf [62,28,26,25,8,7,6,5,4,3,2,1,0] Z (ax 1 Z Z Z (fun hx => ab hx Z Z Z (V O Z) Z Z ( AN.nil)) Z Z (aa (ao O Z Z Z Z Z) Z Z Z (js O Z (jf [65,28,26,25,8,7,6,5,4,3,2,1,0] Z (ax 3 Z Z Z (fun hx => ab hx Z Z Z (V O Z) Z Z ( ab hx Z Z Z (V O Z) Z Z ( bv O hx Z Z Z Z (nB h1 h2) (ac Z) Z Z Z Z Z Z Z (B0 := 69000) Z ( AN.nil)))) Z Z (aa (ao O Z Z Z Z Z) Z Z Z (js O Z (jf [70,28,26,25,8,7,6,5,4,3,2,1,0] Z (ax 1 Z Z Z (fun hx => ab hx Z Z Z (V O Z) Z Z ( AN.nil)) Z Z (aa (ao O Z Z Z Z Z) Z Z Z (js O Z (jf [73,28,26,25,8,7,6,5,4,3,2,1,0] Z (ax 1 Z Z Z (fun hx => ab hx Z Z Z (V O Z) Z Z ( AN.nil)) Z Z (aa (ao O Z Z Z Z Z) Z Z Z (jf [75,28,26,25,8,7,6,5,4,3,2,1,0] Z (jn (af O Z Z (fun hc75 => ?_) (fun hc75 => ?_)))))))))))))))))))))))
 refine am (js O Z (jn (ag (j2 O Z Z (jf [2,28,26,25,7,6,5,4,3,1,0] Z (jr ?_))))))
 refine ⟨.inl Z, _, ar, _, Z, ?_⟩
 rw [bK, wt s hc57, hc75]
 simp [ba, bp hc57]
 refine an (ag (j2 O Z Z (jf [2,28,26,25,7,6,5,4,3,1,0] Z (jr ?_))))
 refine ⟨.inl Z, _, ar, _, Z, ?_⟩
 rw [bK, wt s hc57, hc75]
 simp
 refine ag (j2 O Z Z (jf [76,28,26,25,8,7,6,5,4,3,2,1,0] Z (jn (af O Z Z (fun hc76 => ?_) (fun hc76 => ?_)))))
 refine ag (j2 O Z Z (jf [79,28,26,25,8,7,6,5,4,3,2,1,0] Z (aA O Z Z Z Z (wF h1 h2) (ac Z) Z Z Z Z Z (B0 := 81000) Z (js O Z (jf [81,28,26,25,8,7,6,5,4,3,2,1,0] Z (ax 1 Z Z Z (fun hx => ab hx Z Z Z (V O Z) Z Z ( AN.nil)) Z Z (aa (ao O Z Z Z Z Z) Z Z Z (js O Z (jf [84,28,26,25,8,7,6,5,4,3,2,1,0] Z (ax 1 Z Z Z (fun hx => ab hx Z Z Z (V O Z) Z Z ( AN.nil)) Z Z (aa (ao O Z Z Z Z Z) Z Z Z (js O Z (jf [87,28,26,25,8,7,6,5,4,3,2,1,0] Z (ax 3 Z Z Z (fun hx => ab hx Z Z Z (V O Z) Z Z ( ab hx Z Z Z (V O Z) Z Z ( bv O hx Z Z Z Z (nB h1 h2) (ac Z) Z Z Z Z Z Z Z (B0 := 91000) Z ( AN.nil)))) Z Z (aa (ao O Z Z Z Z Z) Z Z Z (js O Z (jf [92,28,26,25,8,7,6,5,4,3,2,1,0] Z (ax 1 Z Z Z (fun hx => ab hx Z Z Z (V O Z) Z Z ( AN.nil)) Z Z (aa (ao O Z Z Z Z Z) Z Z Z (jf [94,28,26,25,8,7,6,5,4,3,2,1,0] Z (jn (af O Z Z (fun hc94 => ?_) (fun hc94 => ?_)))))))))))))))))))))))
 refine am (js O Z (jn (ag (j2 O Z Z (jf [2,28,26,25,7,6,5,4,3,1,0] Z (jr ?_))))))
 refine ⟨.inl Z, _, ar, _, Z, ?_⟩
 rw [bK, wr s hc76, hc94]
 simp [ba, bp hc76]
 refine an (ag (j2 O Z Z (jf [2,28,26,25,7,6,5,4,3,1,0] Z (jr ?_))))
 refine ⟨.inl Z, _, ar, _, Z, ?_⟩
 rw [bK, wr s hc76, hc94]
 simp
 refine ag (j2 O Z Z (jf [95,28,26,25,8,7,6,5,4,3,2,1,0] Z (jn (af O Z Z (fun hc95 => ?_) (fun hc95 => ?_)))))
 refine ag (j2 O Z Z (jf [98,28,26,25,8,7,6,5,4,3,2,1,0] Z (ax 1 Z Z Z (fun hx => ab hx Z Z Z (V O Z) Z Z ( AN.nil)) Z Z (aa (ao O Z Z Z Z Z) Z Z Z (js O Z (jf [101,28,26,25,8,7,6,5,4,3,2,1,0] Z (ax 3 Z Z Z (fun hx => ab hx Z Z Z (V O Z) Z Z ( ab hx Z Z Z (V O Z) Z Z ( bv O hx Z Z Z Z (nB h1 h2) (ac Z) Z Z Z Z Z Z Z (B0 := 105000) Z ( AN.nil)))) Z Z (aa (ao O Z Z Z Z Z) Z Z Z (js O Z (jf [106,28,26,25,8,7,6,5,4,3,2,1,0] Z (ax 3 Z Z Z (fun hx => ab hx Z Z Z (V O Z) Z Z ( ab hx Z Z Z (V O Z) Z Z ( bv O hx Z Z Z Z (nB h1 h2) (ac Z) Z Z Z Z Z Z Z (B0 := 110000) Z ( AN.nil)))) Z Z (aa (ao O Z Z Z Z Z) Z Z Z (js O Z (jf [111,28,26,25,8,7,6,5,4,3,2,1,0] Z (ax 1 Z Z Z (fun hx => ab hx Z Z Z (V O Z) Z Z ( AN.nil)) Z Z (aa (ao O Z Z Z Z Z) Z Z Z (jf [113,28,26,25,8,7,6,5,4,3,2,1,0] Z (jn (af O Z Z (fun hc113 => ?_) (fun hc113 => ?_))))))))))))))))))))
 refine am (js O Z (jn (ag (j2 O Z Z (jf [2,28,26,25,7,6,5,4,3,1,0] Z (jr ?_))))))
 refine ⟨.inl Z, _, ar, _, Z, ?_⟩
 rw [bK, wq s hc95, hc113]
 simp [ba, bp hc95]
 refine an (ag (j2 O Z Z (jf [2,28,26,25,7,6,5,4,3,1,0] Z (jr ?_))))
 refine ⟨.inl Z, _, ar, _, Z, ?_⟩
 rw [bK, wq s hc95, hc113]
 simp
 refine ag (j2 O Z Z (jf [114,28,26,25,8,7,6,5,4,3,2,1,0] Z (jn (af O Z Z (fun hc114 => ?_) (fun hc114 => ?_)))))
 refine ag (j2 O Z Z (jf [117,28,26,25,8,7,6,5,4,3,2,1,0] Z (ax 3 Z Z Z (fun hx => ab hx Z Z Z (V O Z) Z Z ( ab hx Z Z Z (V O Z) Z Z ( bv O hx Z Z Z Z (yW h1 h2) (ac Z) Z Z Z Z Z Z Z (B0 := 121000) Z ( AN.nil)))) Z Z (aa (ao O Z Z Z Z Z) Z Z Z (js O Z (jf [122,28,26,25,8,7,6,5,4,3,2,1,0] Z (ax 1 Z Z Z (fun hx => ab hx Z Z Z (V O Z) Z Z ( AN.nil)) Z Z (aa (ao O Z Z Z Z Z) Z Z Z (js O Z (jf [125,28,26,25,8,7,6,5,4,3,2,1,0] Z (ax 1 Z Z Z (fun hx => ab hx Z Z Z (V O Z) Z Z ( AN.nil)) Z Z (aa (ao O Z Z Z Z Z) Z Z Z (js O Z (jf [128,28,26,25,8,7,6,5,4,3,2,1,0] Z (ax 1 Z Z Z (fun hx => ab hx Z Z Z (V O Z) Z Z ( AN.nil)) Z Z (aa (ao O Z Z Z Z Z) Z Z Z (jf [130,28,26,25,8,7,6,5,4,3,2,1,0] Z (jn (af O Z Z (fun hc130 => ?_) (fun hc130 => ?_))))))))))))))))))))
 refine am (js O Z (jn (ag (j2 O Z Z (jf [2,28,26,25,7,6,5,4,3,1,0] Z (jr ?_))))))
 refine ⟨.inl Z, _, ar, _, Z, ?_⟩
 rw [bK, wo s hc114, hc130]
 simp [ba, bp hc114]
 refine an (ag (j2 O Z Z (jf [2,28,26,25,7,6,5,4,3,1,0] Z (jr ?_))))
 refine ⟨.inl Z, _, ar, _, Z, ?_⟩
 rw [bK, wo s hc114, hc130]
 simp
 refine ag (j2 O Z Z (jf [131,28,26,25,8,7,6,5,4,3,2,1,0] Z (jn (af O Z Z (fun hc131 => ?_) (fun hc131 => ?_)))))
 refine ag (j2 O Z Z (jf [134,28,26,25,8,7,6,5,4,3,2,1,0] Z (ax 1 Z Z Z (fun hx => ab hx Z Z Z (V O Z) Z Z ( AN.nil)) Z Z (aa (ao O Z Z Z Z Z) Z Z Z (js O Z (jf [137,28,26,25,8,7,6,5,4,3,2,1,0] Z (ax 3 Z Z Z (fun hx => ab hx Z Z Z (V O Z) Z Z ( ab hx Z Z Z (V O Z) Z Z ( bv O hx Z Z Z Z (nB h1 h2) (ac Z) Z Z Z Z Z Z Z (B0 := 141000) Z ( AN.nil)))) Z Z (aa (ao O Z Z Z Z Z) Z Z Z (js O Z (jf [142,28,26,25,8,7,6,5,4,3,2,1,0] Z (ax 1 Z Z Z (fun hx => ab hx Z Z Z (V O Z) Z Z ( AN.nil)) Z Z (aa (ao O Z Z Z Z Z) Z Z Z (js O Z (jf [145,28,26,25,8,7,6,5,4,3,2,1,0] Z (ax 1 Z Z Z (fun hx => ab hx Z Z Z (V O Z) Z Z ( AN.nil)) Z Z (aa (ao O Z Z Z Z Z) Z Z Z (jf [147,28,26,25,8,7,6,5,4,3,2,1,0] Z (jn (af O Z Z (fun hc147 => ?_) (fun hc147 => ?_))))))))))))))))))))
 refine am (js O Z (jn (ag (j2 O Z Z (jf [2,28,26,25,7,6,5,4,3,1,0] Z (jr ?_))))))
 refine ⟨.inl Z, _, ar, _, Z, ?_⟩
 rw [bK, wn s hc131, hc147]
 simp [ba, bp hc131]
 refine an (ag (j2 O Z Z (jf [2,28,26,25,7,6,5,4,3,1,0] Z (jr ?_))))
 refine ⟨.inl Z, _, ar, _, Z, ?_⟩
 rw [bK, wn s hc131, hc147]
 simp
 refine ag (j2 O Z Z (jf [148,28,26,25,8,7,6,5,4,3,2,1,0] Z (jn (af O Z Z (fun hc148 => ?_) (fun hc148 => ?_)))))
 refine ag (j2 O Z Z (jf [151,28,26,25,8,7,6,5,4,3,2,1,0] Z (ax 1 Z Z Z (fun hx => ab hx Z Z Z (V O Z) Z Z ( AN.nil)) Z Z (aa (ao O Z Z Z Z Z) Z Z Z (js O Z (jf [154,28,26,25,8,7,6,5,4,3,2,1,0] Z (ax 3 Z Z Z (fun hx => ab hx Z Z Z (V O Z) Z Z ( ab hx Z Z Z (V O Z) Z Z ( bv O hx Z Z Z Z (nB h1 h2) (ac Z) Z Z Z Z Z Z Z (B0 := 158000) Z ( AN.nil)))) Z Z (aa (ao O Z Z Z Z Z) Z Z Z (js O Z (jf [159,28,26,25,8,7,6,5,4,3,2,1,0] Z (ax 1 Z Z Z (fun hx => ab hx Z Z Z (V O Z) Z Z ( AN.nil)) Z Z (aa (ao O Z Z Z Z Z) Z Z Z (js O Z (jf [162,28,26,25,8,7,6,5,4,3,2,1,0] Z (ax 1 Z Z Z (fun hx => ab hx Z Z Z (V O Z) Z Z ( AN.nil)) Z Z (aa (ao O Z Z Z Z Z) Z Z Z (jf [164,28,26,25,8,7,6,5,4,3,2,1,0] Z (jn (af O Z Z (fun hc164 => ?_) (fun hc164 => ?_))))))))))))))))))))
 refine am (js O Z (jn (ag (j2 O Z Z (jf [2,28,26,25,7,6,5,4,3,1,0] Z (jr ?_))))))
 refine ⟨.inl Z, _, ar, _, Z, ?_⟩
 rw [bK, wm s hc148, hc164]
 simp [ba, bp hc148]
 refine an (ag (j2 O Z Z (jf [2,28,26,25,7,6,5,4,3,1,0] Z (jr ?_))))
 refine ⟨.inl Z, _, ar, _, Z, ?_⟩
 rw [bK, wm s hc148, hc164]
 simp
 refine ag (j2 O Z Z (jf [165,28,26,25,8,7,6,5,4,3,2,1,0] Z (jn (af O Z Z (fun hc165 => ?_) (fun hc165 => ?_)))))
 refine ag (j2 O Z Z (jf [168,28,26,25,8,7,6,5,4,3,2,1,0] Z (ax 1 Z Z Z (fun hx => ab hx Z Z Z (V O Z) Z Z ( AN.nil)) Z Z (aa (ao O Z Z Z Z Z) Z Z Z (js O Z (jf [171,28,26,25,8,7,6,5,4,3,2,1,0] Z (ax 3 Z Z Z (fun hx => ab hx Z Z Z (V O Z) Z Z ( ab hx Z Z Z (V O Z) Z Z ( bv O hx Z Z Z Z (nB h1 h2) (ac Z) Z Z Z Z Z Z Z (B0 := 175000) Z ( AN.nil)))) Z Z (aa (ao O Z Z Z Z Z) Z Z Z (js O Z (jf [176,28,26,25,8,7,6,5,4,3,2,1,0] Z (ax 1 Z Z Z (fun hx => ab hx Z Z Z (V O Z) Z Z ( AN.nil)) Z Z (aa (ao O Z Z Z Z Z) Z Z Z (js O Z (jf [179,28,26,25,8,7,6,5,4,3,2,1,0] Z (ax 3 Z Z Z (fun hx => ab hx Z Z Z (V O Z) Z Z ( ab hx Z Z Z (V O Z) Z Z ( bv O hx Z Z Z Z (te h1 h2) (ac Z) Z Z Z Z Z Z Z (B0 := 183000) Z ( AN.nil)))) Z Z (aa (ao O Z Z Z Z Z) Z Z Z (jf [183,28,26,25,8,7,6,5,4,3,2,1,0] Z (jn (af O Z Z (fun hc183 => ?_) (fun hc183 => ?_))))))))))))))))))))
 refine am (js O Z (jn (ag (j2 O Z Z (jf [2,28,26,25,7,6,5,4,3,1,0] Z (jr ?_))))))
 refine ⟨.inl Z, _, ar, _, Z, ?_⟩
 rw [bK, wl s hc165, hc183]
 simp [ba, bp hc165]
 refine an (ag (j2 O Z Z (jf [2,28,26,25,7,6,5,4,3,1,0] Z (jr ?_))))
 refine ⟨.inl Z, _, ar, _, Z, ?_⟩
 rw [bK, wl s hc165, hc183]
 simp
 refine an (ag (j2 O Z Z (jf [2,28,26,25,7,6,5,4,3,1,0] Z (jr ?_))))
 refine ⟨.inl Z, _, ar, _, Z, ?_⟩
 have hn : (decide (0 ≤ s.kind) && decide (s.kind ≤ 8)) = false := by
  have := ch hc27
  have := ch hc42
  have := ch hc57
  have := ch hc76
  have := ch hc95
  have := ch hc114
  have := ch hc131
  have := ch hc148
  have := ch hc165
  rw [← Bool.not_eq_true]; intro h; simp only [bJ, decide_eq_true_eq] at h; omega
 rw [bK, bb, show nk s = true by unfold nk; rw [hn]; rfl]; rfl
inductive Tr where
  | node (s : Sm) (at_ : Int) (kids : List Tr)
mutual
def Tr.d : Tr → D
  | .node s a ks => .ptr [.int .i64 s.kind, .int .i64 s.var, .int .i64 s.event, .int .i64 s.sum.c, c7 s.sum.xs, .int .i64 s.index.c, c7 s.index.xs, dP s.facts, .int .i64 a, .slc 1 (Trs.d ks)] 0
def Trs.d : List Tr → List (List D)
  | [] => []
  | t :: r => [t.d] :: Trs.d r
end
theorem eQ : ∀ {ts : List Tr}, (Trs.d ts).length = ts.length
 | [] => rfl
 | t :: r => by simp [Trs.d, eQ]
theorem lG : ∀ {ts : List Tr} {t : Tr}, Trs.d (ts ++ [t]) = Trs.d ts ++ [[t.d]]
 | [], t => rfl
 | u :: r, t => by simp [Trs.d, lG]
def bZ (f : Nat → Option (Tr × Nat)) : Nat → Nat → Option (List Tr × Nat)
  | 0, k => some ([], k)
  | q + 1, k => match f k with
    | none => none
    | some (t, k') => (bZ f q k').map fun r => (t :: r.1, r.2)
def bU : Nat → List Sm → Nat → Option (Tr × Nat)
  | 0, _, _ => none
  | n + 1, body, k => if body.length ≤ k then none else if bK (body.getD k default) < 0 then none else
      (bZ (bU n body) (bK (body.getD k default)).toNat (k + 1)).map fun r => (.node (body.getD k default) k r.1, r.2)
theorem cH {f : Nat → Option (Tr × Nat)} {q k k' : Nat} {t : Tr} (h : f k = some (t, k')) : bZ f (q + 1) k = (bZ f q k').map fun r => (t :: r.1, r.2) := by rw [bZ, h]
theorem da {f : Nat → Option (Tr × Nat)} {q k : Nat} (h : f k = none) : bZ f (q + 1) k = none := by rw [bZ, h]
theorem nU {f : Nat → Option (Tr × Nat)} {N : Nat} (hf : ∀ k t k', f k = some (t, k') → k < k' ∧ k' ≤ N) : ∀ {q k ts k'}, bZ f q k = some (ts, k') → k ≤ N → k ≤ k' ∧ k' ≤ N
 | 0, k, ts, k', h, hk => by simp [bZ] at h; omega
 | q + 1, k, ts, k', h, hk => by
  unfold bZ at h
  cases hx : f k with
  | none => rw [hx] at h; cases h
  | some x =>
   obtain ⟨t, k1⟩ := x
   rw [hx] at h
   simp only [Option.map_eq_some_iff] at h
   obtain ⟨⟨ts1, k2⟩, h1, h2⟩ := h
   simp only [Prod.mk.injEq] at h2
   have h3 := hf k t k1 hx
   have h4 := nU hf h1 h3.2
   omega
theorem e9 : ∀ {n body k t k'}, bU n body k = some (t, k') → k < k' ∧ k' ≤ body.length
 | 0, _, _, _, _, h => by cases h
 | n + 1, body, k, t, k', h => by
  unfold bU at h
  split at h
  cases h
  split at h
  cases h
  simp only [Option.map_eq_some_iff] at h
  obtain ⟨⟨ts1, k2⟩, h1, h2⟩ := h
  simp only [Prod.mk.injEq] at h2
  have := nU (N := body.length) (fun k t k' h => e9 h) h1 (by omega)
  omega
abbrev tP (r : Option (Tr × Nat)) : D := match r with | some (t, _) => t.d | none => .nilp
abbrev tN (r : Option (Tr × Nat)) : Int := match r with | some (_, k) => k | none => 0
abbrev tB (r : Option (Tr × Nat)) : Bool := match r with | some _ => true | none => false
abbrev uu (r : Option (Tr × Nat)) : A := .tup [.c (.d (tP r)), eI (tN r), eB (tB r)]
theorem p9 {r : Option (Tr × Nat)} (h : tB r = true) : ∃ t k, r = some (t, k) := by
 cases r with
 | none => cases h
 | some x => exact ⟨x.1, x.2, Z⟩
theorem se {r : Option (Tr × Nat)} (h : tB r = false) : r = none := by
 cases r with
 | none => rfl
 | some x => cases h
theorem sH (s : Sm) : bK s ≤ 2 := by
 unfold bK; split
 exact (cu _).2
 decide
theorem xy {n k : Nat} (hk : k ≤ body.length) (hn : body.length < n + 1 + k) (ih : ∀ k', k' ≤ body.length → body.length < n + k' → MQ h1 h2 126 [.c (.d (go body)), eI k'] [] (Plain (uu (bU n body k')))) : MQ h1 h2 126 [.c (.d (go body)), eI k] [] (Plain (uu (bU (n + 1) body k))) := by
 refine jB 58 h1 h2 Tryz.func126 Z Z Z fun O hF => ?_
 have hl : body.length ≤ L := by simpa [As.fact, A.fact, M.fact, D.fact, Ds.fact] using hF.1.1
 refine ag (j3 O Z Z Z (jn (ah (ag (j2 O Z Z (dn O Z (js O Z (jf [15,6,5,4,0,1] Z (jn (af O Z Z (fun hc15 => ?_) (fun hc15 => ?_)))))))))))
 try simp only [bL] at hc15
 refine ag (j3 O Z Z Z (jr ?_))
 refine ⟨.inl Z, _, au [] Z Z (e' := [(4, .c (.d .nilp)), (5, eI 0), (6, eB false)]) ⟨Z, Z, Z, trivial⟩ Z, _, Z, ?_, Z⟩
 rw [show bU (n + 1) body k = none from if_pos (by omega)]
 try simp only [bL] at hc15
 refine an (ag (j2 O Z Z (nq O Z Z (js O Z (jf [19,6,5,4,0,1] Z (aA O Z Z Z Z (yX h1 h2) (ac Z) Z Z Z Z Z (B0 := 21000) Z (js O Z (jf [7,6,5,4,0,1] Z (jn (ah (ag (j2 O Z Z (jn (af O Z Z (fun hc22 => ?_) (fun hc22 => ?_)))))))))))))))
 try simp only [bL] at hc22
 refine ag (j3 O Z Z Z (jr ?_))
 refine ⟨.inl Z, _, au [] Z Z (e' := [(4, .c (.d .nilp)), (5, eI 0), (6, eB false)]) ⟨Z, Z, Z, trivial⟩ Z, _, Z, ?_, Z⟩
 rw [show bU (n + 1) body k = none by unfold bU; rw [if_neg (by omega)]; exact if_pos hc22]
 try simp only [bL] at hc22
 refine an (ag (j2 O Z Z (nq O Z Z (j3 O Z Z Z (jf [28,21,7,6,5,4,0,1] Z (jx O Z (av ?_)))))))
 refine js O Z (jf [8,21,7,6,5,4,0,1] Z (bf (js O Z (ji O Z (js O Z (jf [1,8,21,7,6,5,4,0] Z (jn (ah (aw (aE (X := Nat × Nat × List Tr) (fun x => ⟨[(0, .c (.d (go body))), (1, eI x.2.1), (7, eI x.1), (8, .c (.pt 29 0 0))], [(29, .box [.d (.int .i64 (body.getD k default).kind), .d (.int .i64 (body.getD k default).var), .d (.int .i64 (body.getD k default).event), .d (.int .i64 (body.getD k default).sum.c), .d (c7 (body.getD k default).sum.xs), .d (.int .i64 (body.getD k default).index.c), .d (c7 (body.getD k default).index.xs), .d (dP (body.getD k default).facts), .d (.int .i64 k), .rs 700 0 x.2.2.length]), (700, .row false 1 (Trs.d x.2.2))]⟩) (fun x => x.2.1 ≤ body.length ∧ k < x.2.1 ∧ bZ (bU n body) (bK (body.getD k default)).toNat (k + 1) = (bZ (bU n body) x.1 x.2.1).map (fun r => (x.2.2 ++ r.1, r.2)) ∧ x.2.2.length + x.1 ≤ 2) (fun x => x.1) ((bK (body.getD k default)).toNat, k + 1, []) ((cM 29 700 1 false 9 Z Z Z).trans (Ent.to ⟨Z, Z, congrArg (fun z => some (eI z)) (Int.toNat_of_nonneg hc22).symm, Z, trivial⟩ Z)) ?_ (fun x hi => ?_)))))))))))
 exact ⟨(show k + 1 ≤ body.length by omega), Nat.lt_succ_self k, by simp, by have := sH (body.getD k default); show 0 + (bK (body.getD k default)).toNat ≤ 2; omega⟩
 refine ah (ag (j2 O Z Z (jn (af O Z Z (fun hc33 => ?_) (fun hc33 => ?_)))))
 try simp only [bL] at hc33
 refine an (ah (aw (ag (j2 O Z Z (ak O Z Z Z Z (ih x.2.1 hi.1 (by omega)) (ac Z) Z Z Z Z (B0 := 40000) Z Z (j4 O Z Z Z Z (j3 O Z Z Z (jf [11,10,9,33,32,0,1,7,8] Z (jn (ah (ag (j2 O Z Z (jf [44,10,9,33,32,0,1,7,8] Z (jn (af O Z Z (fun hc44 => ?_) (fun hc44 => ?_))))))))))))))))
 try simp only [bL] at hc44
 refine ag (j3 O Z Z Z (jr ?_))
 refine ⟨.inl Z, _, au [] Z Z (e' := [(4, .c (.d .nilp)), (5, eI 0), (6, eB false)]) ⟨Z, Z, Z, trivial⟩ Z, _, Z, ?_, Z⟩
 have e0 := se hc44
 rw [Int.toNat_natCast] at hc22
 rw [show bU (n + 1) body k = none by
  unfold bU
  rw [if_neg (by omega), if_neg (by omega), hi.2.2.1]
  obtain ⟨q, hq⟩ : ∃ q, x.1 = q + 1 := ⟨x.1 - 1, by omega⟩
  rw [hq, da e0]; rfl]
 try simp only [bL] at hc44
 refine an (ag ?_)
 obtain ⟨t1, k1, hr⟩ := p9 hc44
 obtain ⟨s1, a1, ks1⟩ := t1
 rw [hr]
 refine j4 O Z Z Z Z (j2 O Z Z (jf [50,49,45,44,10,33,32,0,1,7,8] Z (AOps.heap (bC O Z Z Z) Z (av ?_))))
 refine jf [51,49,45,44,10,33,32,0,1,7,8] Z (AOps.heap (bh (own := false) O Z Z Z Z Z Z Z Z Z Z Z Z Z Z Z Z (.row Z eQ.symm) (.whole Z Z (.inr ⟨Z, Z⟩)) (by simp) Z (by rw [eQ]; show x.2.2.length + 1 ≤ L; omega) (by rw [eQ]; show (x.2.2.length + 1) * 8 ≤ _; omega) Z (by rw [dk, eQ])) Z (av ?_))
 refine j2 O Z Z (jf [54,52,44,10,33,32,0,1,7,8] Z (jo O Z (av ?_)))
 refine jf [44,10,33,32,0,1,7,8] Z (jn (am (j2 O Z Z (jf [1,44,33,32,0,7,8] Z (jn (am (js O Z (ji O Z (js O Z (jf [7,1,44,33,32,0,8] Z (jn ?_)))))))))))
 refine ⟨(x.1 - 1, k1, x.2.2 ++ [.node s1 a1 ks1]), ((au [29,52] (e' := [(0, _), (1, _), (7, _), (8, _)]) Z Z ⟨Z, Z, Z, Z, trivial⟩ Z).trans (Ent.sub 52 700 Z Z Z)).trans (Ent.to ⟨Z, Z, ?_, Z, trivial⟩ ?_), ⟨(e9 hr).2, by have := (e9 hr).1; show k < k1; omega, ?_, ?_⟩, ?_⟩
 exact congrArg (fun z => some (eI z)) (by show (x.1 : Int) - 1 = (x.1 - 1 : Nat); omega)
 rw [lG, dk]; rfl
 rw [hi.2.2.1]
 obtain ⟨q, hq⟩ : ∃ q, x.1 = q + 1 := ⟨x.1 - 1, by omega⟩
 rw [hq, cH hr]
 simp [Option.map_map, Function.comp_def]
 show (x.2.2 ++ [_]).length + (x.1 - 1) ≤ 2; simp; omega
 show x.1 - 1 < x.1; omega
 try simp only [bL] at hc33
 refine bt (ag (j4 O Z Z Z Z (js O Z (jf [6,5,4,33,32,0,1,7,8] Z (jr ?_)))))
 refine ⟨.inl Z, _, ((Ent.to (e' := [(4, _), (5, _), (6, _)]) ⟨Z, Z, Z, trivial⟩ Z).trans (Ent.freeze (e' := [(4, _), (5, _), (6, _)]) 700 Z (.cons Z (.keep Z) (.cons Z (.keep Z) (.cons Z (.keep Z) .nil))) (.cons Z (.box (.cons (.keep Z) (.cons (.keep Z) (.cons (.keep Z) (.cons (.keep Z) (.cons (.keep Z) (.cons (.keep Z) (.cons (.keep Z) (.cons (.keep Z) (.cons (.keep Z) (.cons (.row Z eQ.symm) .nil))))))))))) (.skip .nil)))).trans (Ent.freeze (e' := [(4, _), (5, _), (6, _)]) 29 Z (.cons Z (.c (.box (cs := [.int .i64 (body.getD k default).kind, .int .i64 (body.getD k default).var, .int .i64 (body.getD k default).event, .int .i64 (body.getD k default).sum.c, c7 (body.getD k default).sum.xs, .int .i64 (body.getD k default).index.c, c7 (body.getD k default).index.xs, dP (body.getD k default).facts, .int .i64 k, .slc 1 (Trs.d x.2.2)]) Z (aI Z))) (.cons Z (.keep Z) (.cons Z (.keep Z) .nil))) (.skip .nil)), _, Z, ?_, Z⟩
 have hx : x.1 = 0 := by omega
 rw [Int.toNat_natCast] at hc22
 rw [show bU (n + 1) body k = some (.node (body.getD k default) k x.2.2, x.2.1) by
  unfold bU
  rw [if_neg (by omega), if_neg (by omega), hi.2.2.1, hx]; simp [bZ]]
 rfl
theorem wK {L : Nat} (h1 : 4096 ≤ L) (h2 : L ≤ 1073741824) {body : List Sm} : ∀ {n k : Nat}, k ≤ body.length → body.length < n + k → MC Tryz.prog L 126 [.c (.d (go body)), eI k] [] (Plain (uu (bU n body k)))
 | 0, k, hk, hn => by omega
 | n + 1, k, hk, hn => xy h1 h2 hk hn (fun k' hk' hn' => wK h1 h2 hk' hn')
def vZ (body : List Sm) : Option (Tr × Nat) := bU (body.length + 1) body 0
def qn (body : List Sm) : D := if (30 : Int) < body.length then .nilp else tP (vZ body)
def qW (body : List Sm) : Bool := if (30 : Int) < body.length then false else (tB (vZ body) && decide (tN (vZ body) = body.length))
def eD (p : Pm) : Bool := qW p.body && (bz p.pre 6 && bz p.post 6)

theorem wN : MQ h1 h2 85 [.c (.d (go body))] [] (Plain (.tup [.c (.d (qn body)), eB (qW body)])) := by
 refine jB 24 h1 h2 Tryz.func85 Z Z Z fun O hF => ?_
 have hl : body.length ≤ L := by simpa [As.fact, A.fact, M.fact, D.fact, Ds.fact] using hF.1.1
 refine ag (j2 O Z Z (jn (ah (ag (js O Z (dn O Z (js O Z (jf [9,3,2,0] Z (jn (af O Z Z (fun hc9 => ?_) (fun hc9 => ?_)))))))))))
 try simp only [bL] at hc9
 refine ag (j2 O Z Z (jr ?_))
 refine ⟨.inl Z, _, ar, _, Z, ?_, Z⟩
 rw [qn, qW, if_pos hc9, if_pos hc9]
 try simp only [bL] at hc9
 refine an (ag (js O Z (bc [(11, _), (3, _), (2, _), (0, _)] [] ⟨Z, Z, Z, Z, trivial⟩ Z (ak O Z Z Z Z (wK (n := body.length + 1) (k := 0) h1 h2 (dm _) (by omega)) (ac Z) Z Z Z Z (B0 := 13000) Z Z (j4 O Z Z Z Z (j3 O Z Z Z (jf [6,5,4,3,2,0] Z (bf (j3 O Z Z Z (bc [(18, _), (16, _), (5, _), (3, _), (2, _), (0, _)] [] ⟨Z, Z, Z, Z, Z, Z, trivial⟩ Z (ax 4 Z Z Z (fun hx => ab hx Z Z Z (V O Z) Z Z ( ab hx Z Z Z (V O Z) Z Z ( ab hx Z Z Z (bG O Z Z Z Z Z Z Z Z) Z Z ( ab hx Z Z Z (V O Z) Z Z ( AN.nil))))) Z Z (aa (ao O Z Z Z Z Z) Z Z Z (j2 O Z Z (jf [3,2,0] Z (jr ?_)))))))))))))))
 refine ⟨.inl Z, _, ar, _, Z, ?_, Z⟩
 rw [qn, qW, if_neg (by omega), if_neg (by omega), ← Bool.cond_false_right]; rfl
theorem y5 : MQ h1 h2 124 [.c (.d (go body))] [] (Plain (eB (qW body))) := by
 refine aP ?_ Z
 refine jB 11 h1 h2 Tryz.func124 Z Z Z fun O hF => ?_
 refine ag (js O Z (bf (js O Z (bc [(6, _), (2, _)] [] ⟨Z, Z, trivial⟩ Z (ak O Z Z Z Z (wN h1 h2) (ac Z) Z Z Z Z (B0 := 8000) Z Z (j4 O Z Z Z Z (js O Z (jf [4,2] Z (bf (j2 O Z Z (jf [2] Z (jr ?_))))))))))))
 refine ⟨.inl Z, _, ar, _, Z, ?_⟩
 first | rfl | skip
theorem za {p : Pm} : MQ h1 h2 82 [fo p] [] (Plain (eB (eD p))) := by
 refine aP ?_ Z
 refine jB 16 h1 h2 Tryz.func82 Z Z Z fun O hF => ?_
 refine ag (jx O Z (js O Z (bf (j2 O Z Z (jf [4,2,1,0] Z (aA O Z Z Z Z (y5 h1 h2) (ac Z) Z Z Z Z Z (B0 := 6000) Z (js O Z (jf [6,2,1,0] Z (ax 3 Z Z Z (fun hx => ab hx Z Z Z (V O Z) Z Z ( ab hx Z Z Z (V O Z) Z Z ( bv O hx Z Z Z Z (te h1 h2) (ac Z) Z Z Z Z Z Z Z (B0 := 10000) Z ( AN.nil)))) Z Z (aa (ao O Z Z Z Z Z) Z Z Z (js O Z (jf [11,2,1,0] Z (ax 3 Z Z Z (fun hx => ab hx Z Z Z (V O Z) Z Z ( ab hx Z Z Z (V O Z) Z Z ( bv O hx Z Z Z Z (te h1 h2) (ac Z) Z Z Z Z Z Z Z (B0 := 15000) Z ( AN.nil)))) Z Z (aa (ao O Z Z Z Z Z) Z Z Z (js O Z (jf [2,0] Z (jr ?_)))))))))))))))))
 refine ⟨.inl Z, _, ar, _, Z, ?_⟩
 rw [Bool.cond_false_right, Bool.cond_false_right, Bool.and_assoc]; rfl
theorem y9 {s : Sx} : MQ h1 h2 83 [wi s] [] (Plain (eB (s3 s))) := by
 refine aP ?_ Z
 refine jB 23 h1 h2 Tryz.func83 Z Z Z fun O hF => ?_
 refine ag (jx O Z (js O Z (bf (j2 O Z Z (dn O Z (j2 O Z Z (jf [7,2,1,0] Z (ax 4 Z Z Z (fun hx => ab hx Z Z Z (V O Z) Z Z ( ab hx Z Z Z (V O Z) Z Z ( ab hx Z Z Z (bG O Z Z Z Z Z Z Z Z) Z Z ( ab hx Z Z Z (V O Z) Z Z ( AN.nil))))) Z Z (aa (ao O Z Z Z Z Z) Z Z Z (js O Z (jf [13,2,1,0] Z (ax 3 Z Z Z (fun hx => ab hx Z Z Z (V O Z) Z Z ( ab hx Z Z Z (V O Z) Z Z ( bv O hx Z Z Z Z (uA h1 h2) (ac Z) Z Z Z Z Z Z Z (B0 := 17000) Z ( AN.nil)))) Z Z (aa (ao O Z Z Z Z Z) Z Z Z (js O Z (jf [18,2,1,0] Z (ax 3 Z Z Z (fun hx => ab hx Z Z Z (V O Z) Z Z ( ab hx Z Z Z (V O Z) Z Z ( bv O hx Z Z Z Z (uA h1 h2) (ac Z) Z Z Z Z Z Z Z (B0 := 22000) Z ( AN.nil)))) Z Z (aa (ao O Z Z Z Z Z) Z Z Z (js O Z (jf [2,0] Z (jr ?_))))))))))))))))))))
 refine ⟨.inl Z, _, ar, _, Z, ?_⟩
 exact congrArg eB (show (bif bif bif decide ((s.vars.length : Int) = 4) then decide ((s.cells.length : Int) = 8) else false then s.vars.all ol else false then s.cells.all ol else false) = s3 s by unfold s3 b9; cases s.vars.all ol <;> cases s.cells.all ol <;> simp)
structure RS where
  vars : List Int
  cells : List Int
  events : List Int
  fuel : Int
  steps : Int
  out : Int
def leaf (s : Sm) (r : RS) : Bool × RS :=
  if s.kind = 2 then (if ol (dQ s.sum r.vars) = true then (true, { r with vars := r.vars.set s.var.toNat (dQ s.sum r.vars) }) else (false, { r with out := 4 }))
  else if s.kind = 3 then (if gp 0 7 (dQ s.index r.vars) = true then (true, { r with vars := r.vars.set s.var.toNat (r.cells.getD (dQ s.index r.vars).toNat default) }) else (false, { r with out := 2 }))
  else if s.kind = 4 then (if gp 0 7 (dQ s.index r.vars) = true then (if ol (dQ s.sum r.vars) = true then (true, { r with cells := r.cells.set (dQ s.index r.vars).toNat (dQ s.sum r.vars) }) else (false, { r with out := 4 })) else (false, { r with out := 2 }))
  else if s.kind = 5 then (true, { r with events := r.events ++ [s.event] })
  else if s.kind = 6 then (if dQ s.sum r.vars < 0 then (false, { r with out := 3 }) else (true, r))
  else (true, r)
structure RSok (r : RS) : Prop where
  vars : b9 r.vars 4 = true
  cells : b9 r.cells 8 = true
  lo : 0 ≤ r.steps
  hi : r.steps ≤ r.fuel
  fuel : r.fuel ≤ 2000
  events : (r.events.length : Int) ≤ r.steps
structure RSle (r r' : RS) : Prop where
  ok : RSok r'
  fuel : r'.fuel = r.fuel
  steps : r.steps ≤ r'.steps
theorem iM {s : Sm} (h : bb s = true) : s.sum.term = true ∧ s.index.term = true := by
 unfold bb nk at h
 cases h1 : s.sum.term <;> cases h2 : s.index.term <;> simp [h1, h2] at h ⊢
theorem sk {s : Sm} (h : bb s = true) (hk : kM s = true) : 0 ≤ s.var ∧ s.var ≤ 3 := by
 unfold bb qY at h
 rw [hk] at h
 cases h1 : (decide (0 ≤ s.var) && decide (s.var ≤ 3)) with
 | true => simpa using h1
 | false => rw [h1] at h; cases nk s <;> cases qp s <;> simp at h

mutual
/-- Each element is valid, and has the statements behind it that it cV. -/
def Tr.ok : Tr → Prop
  | .node s _ ks => bb s = true ∧ (ks.length : Int) = ba s.kind ∧ Trs.ok ks
def Trs.ok : List Tr → Prop
  | [] => True
  | t :: r => t.ok ∧ Trs.ok r
end
theorem jp {f : Nat → Option (Tr × Nat)} (hf : ∀ k t k', f k = some (t, k') → t.ok) : ∀ {q k ts k'}, bZ f q k = some (ts, k') → ts.length = q ∧ Trs.ok ts
 | 0, k, ts, k', h => by simp only [bZ, eg, Prod.mk.injEq] at h; rw [← h.1]; exact ⟨rfl, trivial⟩
 | q + 1, k, ts, k', h => by
  cases hx : f k with
  | none => rw [da hx] at h; cases h
  | some x =>
   obtain ⟨t, k1⟩ := x
   rw [cH hx] at h
   simp only [Option.map_eq_some_iff] at h
   obtain ⟨⟨ts1, k2⟩, h1, h2⟩ := h
   simp only [Prod.mk.injEq] at h2
   obtain ⟨h3, h4⟩ := jp hf h1
   rw [← h2.1]
   exact ⟨by simp [h3], hf k t k1 hx, h4⟩
theorem jh : ∀ {n body k t k'}, bU n body k = some (t, k') → t.ok
 | 0, _, _, _, _, h => by cases h
 | n + 1, body, k, t, k', h => by
  unfold bU at h
  split at h
  cases h
  split at h
  cases h
  rename_i hk
  simp only [Option.map_eq_some_iff] at h
  obtain ⟨⟨ts1, k2⟩, h1, h2⟩ := h
  simp only [Prod.mk.injEq] at h2
  obtain ⟨h3, h4⟩ := jp (fun k t k' h => jh h) h1
  rw [← h2.1]
  have hs : bb (body.getD k default) = true := by
   cases hb : bb (body.getD k default) with
   | true => rfl
   | false => unfold bK at hk; rw [hb] at hk; exact absurd (by rw [if_neg (by decide)]; decide) hk
  refine ⟨hs, ?_, h4⟩
  rw [h3]
  unfold bK
  rw [if_pos hs]
  have := (cu (body.getD k default).kind).1
  omega
theorem nJ {body : List Sm} (h : qW body = true) : ∃ t, vZ body = some (t, body.length) ∧ t.ok ∧ qn body = t.d := by
 unfold qW at h
 split at h
 cases h
 rename_i h30
 simp only [bJ, decide_eq_true_eq] at h
 obtain ⟨t, k, hk⟩ := p9 h.1
 have h2 := h.2
 rw [hk] at h2
 simp only [Int.ofNat_inj, Int.natCast_inj] at h2
 subst h2
 exact ⟨t, hk, jh hk, by unfold qn; rw [if_neg h30, hk]⟩
def r0 (s : Sx) (f : Int) : RS := ⟨s.vars, s.cells, [], f, 0, 0⟩
structure Rs where
  v : List Int
  c : List Int
  ev : List Int
  out : Int
  st : Int
structure Cf where
  n : Nat
  ws : List Nat
  v : List Int
  c : List Int
  ev : List Int
  st : Int
theorem qL {b : List Sm} (h : gn b = true) : 1 ≤ b.length ∧ b.length ≤ 30 ∧ b.all bb = true ∧ mE b 0 = b.length := by
 unfold gn at h; simp only [bJ, decide_eq_true_eq] at h
 exact ⟨by omega, by omega, h.2.1, h.2.2⟩

theorem gT {f g : Nat → Option (Tr × Nat)} {k0 : Nat} (h : ∀ j, k0 ≤ j → f j = g j) (hf : ∀ k t k', f k = some (t, k') → k < k') : ∀ {q k : Nat}, k0 ≤ k → bZ f q k = bZ g q k
 | 0, _, _ => rfl
 | q + 1, k, hk => by
  cases hx : f k with
  | none => rw [da hx, da (by rw [← h k hk]; exact hx)]
  | some x =>
   obtain ⟨t, k1⟩ := x
   have := hf k t k1 hx
   rw [cH hx, cH (by rw [← h k hk]; exact hx), gT h hf (by omega)]
theorem ij {n : Nat} {body : List Sm} {k : Nat} (h : body.length ≤ k) : bU n body k = none := by
 cases n with
 | zero => rfl
 | succ n => unfold bU; rw [if_pos h]
theorem lu : ∀ {n m : Nat} {body : List Sm} {k : Nat}, body.length < n + k → body.length < m + k → bU n body k = bU m body k
 | 0, m, body, k, h1, h2 => by rw [ij (by omega), ij (by omega)]
 | n + 1, 0, body, k, h1, h2 => by rw [ij (by omega), ij (by omega)]
 | n + 1, m + 1, body, k, h1, h2 => by
  unfold bU
  rw [gT (f := bU n body) (g := bU m body) (k0 := k + 1) (fun j hj => lu (by omega) (by omega)) (fun k t k' h => (e9 h).1) (cz _)]
def bM (body : List Sm) (k : Nat) : Option (Tr × Nat) := bU (body.length + 1) body k
theorem jP {body : List Sm} {k : Nat} : bM body k = if body.length ≤ k then none else if bK (body.getD k default) < 0 then none else (bZ (bM body) (bK (body.getD k default)).toNat (k + 1)).map fun r => (.node (body.getD k default) k r.1, r.2) := by
 unfold bM
 show (if body.length ≤ k then none else if bK (body.getD k default) < 0 then none else (bZ (bU body.length body) (bK (body.getD k default)).toNat (k + 1)).map fun r => (Tr.node (body.getD k default) k r.1, r.2)) = _
 rw [gT (f := bU body.length body) (g := bU (body.length + 1) body) (k0 := k + 1) (fun j hj => lu (by omega) (by omega)) (fun k t k' h => (e9 h).1) (cz _)]
theorem fX {body : List Sm} {k k' : Nat} {t : Tr} (h : bM body k = some (t, k')) : k < k' ∧ k' ≤ body.length := e9 h
theorem bR {body : List Sm} {k k' : Nat} {s : Sm} {a : Int} {ks : List Tr} (h : bM body k = some (.node s a ks, k')) :
    k < body.length ∧ s = body.getD k default ∧ bb s = true ∧ bZ (bM body) ks.length (k + 1) = some (ks, k') ∧ (ks.length : Int) = ba s.kind := by
 rw [jP] at h
 split at h
 cases h
 split at h
 cases h
 rename_i h1 h2
 simp only [Option.map_eq_some_iff] at h
 obtain ⟨⟨ts, k2⟩, h3, h4⟩ := h
 simp only [Prod.mk.injEq, Tr.node.injEq] at h4
 obtain ⟨⟨h5, _, h6⟩, h7⟩ := h4
 subst h6; subst h7; subst h5
 have h8 := (jp (fun k t k' h => jh h) h3).1
 have hs : bb (body.getD k default) = true := by
  cases hb : bb (body.getD k default) with
  | true => rfl
  | false => unfold bK at h2; rw [hb] at h2; exact absurd (by rw [if_neg (by decide)]; decide) h2
 refine ⟨by omega, Z, hs, by rw [h8]; exact h3, ?_⟩
 rw [h8]
 unfold bK
 rw [if_pos hs]
 have := (cu (body.getD k default).kind).1
 omega
theorem jX {body : List Sm} {k : Nat} (hk : k < body.length) {n : Int} (hn : 0 < n) : dU (body.drop k) n = (dU (body.drop (k + 1)) (n - 1 + ba (body.getD k default).kind)).map (· + 1) := by
 rw [n0 hn hk, show n + (ba (body.getD k default).kind - 1) = n - 1 + ba (body.getD k default).kind by omega]
theorem mj {body : List Sm} {f : Nat → Option (Tr × Nat)} (hf : ∀ k t k', f k = some (t, k') → k < k' ∧ ∀ n : Int, 0 ≤ n → dU (body.drop k) (n + 1) = (dU (body.drop k') n).map (· + (k' - k))) :
    ∀ {q k : Nat} {ts : List Tr} {k' : Nat}, bZ f q k = some (ts, k') → k ≤ k' ∧ ∀ n : Int, 0 ≤ n → dU (body.drop k) (n + q) = (dU (body.drop k') n).map (· + (k' - k))
 | 0, k, ts, k', h => by
  simp only [bZ, eg, Prod.mk.injEq] at h
  rw [← h.2]
  refine ⟨cz _, fun n hn => ?_⟩
  rw [show n + ((0 : Nat) : Int) = n by omega]
  simp
 | q + 1, k, ts, k', h => by
  cases hx : f k with
  | none => rw [da hx] at h; cases h
  | some x =>
   obtain ⟨t, k1⟩ := x
   rw [cH hx] at h
   simp only [Option.map_eq_some_iff] at h
   obtain ⟨⟨ts1, k2⟩, h1, h2⟩ := h
   simp only [Prod.mk.injEq] at h2
   obtain ⟨_, rfl⟩ := h2
   obtain ⟨h3, h4⟩ := hf k t k1 hx
   obtain ⟨h5, h6⟩ := mj hf h1
   refine ⟨by omega, fun n hn => ?_⟩
   rw [show n + ((q + 1 : Nat) : Int) = (n + q) + 1 by omega, h4 _ (by omega), h6 n hn, Option.map_map]
   exact congrArg (fun g => Option.map g _) (funext fun x => by simp; omega)
theorem jW {body : List Sm} : ∀ {n k : Nat} {t : Tr} {k' : Nat}, bU n body k = some (t, k') → k < k' ∧ ∀ m : Int, 0 ≤ m → dU (body.drop k) (m + 1) = (dU (body.drop k') m).map (· + (k' - k))
 | 0, _, _, _, h => by cases h
 | n + 1, k, t, k', h => by
  unfold bU at h
  split at h
  cases h
  split at h
  cases h
  rename_i h1 h2
  simp only [Option.map_eq_some_iff] at h
  obtain ⟨⟨ts, k2⟩, h3, h4⟩ := h
  simp only [Prod.mk.injEq] at h4
  obtain ⟨_, rfl⟩ := h4
  obtain ⟨h5, h6⟩ := mj (body := body) (fun k t k' h => jW h) h3
  have hs : bb (body.getD k default) = true := by
   cases hb : bb (body.getD k default) with
   | true => rfl
   | false => unfold bK at h2; rw [hb] at h2; exact absurd (by rw [if_neg (by decide)]; decide) h2
  have hkf : bK (body.getD k default) = ba (body.getD k default).kind := by unfold bK; rw [if_pos hs]
  have hb := (cu (body.getD k default).kind).1
  refine ⟨by omega, fun m hm => ?_⟩
  have h7 := h6 m hm
  rw [hkf] at h7
  rw [jX (by omega) (by omega), show m + 1 - 1 + ba (body.getD k default).kind = m + ((ba (body.getD k default).kind).toNat : Int) by omega, h7, Option.map_map]
  exact congrArg (fun g => Option.map g _) (funext fun x => by simp; omega)
theorem qE {body : List Sm} {k k' : Nat} {t : Tr} (h : bM body k = some (t, k')) : mE body k = k' := by
 obtain ⟨h1, h2⟩ := jW h
 have h3 := h2 0 (Int.le_refl _)
 unfold mE
 rw [show (1 : Int) = 0 + 1 from Z, h3, gJ (Int.le_refl _)]
 show (k : Int) + ((0 + (k' - k) : Nat) : Int) = k'
 omega
theorem nI {body : List Sm} : ∀ {n k : Nat} {t : Tr} {k' : Nat}, bU n body k = some (t, k') → ∀ j, k ≤ j → j < k' → bb (body.getD j default) = true
 | 0, _, _, _, h => by cases h
 | n + 1, k, t, k', h => by
  unfold bU at h
  split at h
  cases h
  split at h
  cases h
  rename_i h1 h2
  simp only [Option.map_eq_some_iff] at h
  obtain ⟨⟨ts, k2⟩, h3, h4⟩ := h
  simp only [Prod.mk.injEq] at h4
  obtain ⟨_, rfl⟩ := h4
  have hs : bb (body.getD k default) = true := by
   cases hb : bb (body.getD k default) with
   | true => rfl
   | false => unfold bK at h2; rw [hb] at h2; exact absurd (by rw [if_neg (by decide)]; decide) h2
  have key : ∀ {q k : Nat} {ts : List Tr} {k' : Nat}, bZ (bU n body) q k = some (ts, k') → ∀ j, k ≤ j → j < k' → bb (body.getD j default) = true := by
   intro q
   induction q with
   | zero => intro k ts k' h j h1 h2; simp only [bZ, eg, Prod.mk.injEq] at h; omega
   | succ q ih =>
    intro k ts k' h j h1 h2
    cases hx : bU n body k with
    | none => rw [da hx] at h; cases h
    | some x =>
     obtain ⟨t, k1⟩ := x
     rw [cH hx] at h
     simp only [Option.map_eq_some_iff] at h
     obtain ⟨⟨ts1, k2⟩, h3, h4⟩ := h
     simp only [Prod.mk.injEq] at h4
     obtain ⟨_, rfl⟩ := h4
     by_cases hj : j < k1
     exact nI hx j h1 hj
     exact ih h3 j (by omega) h2
  intro j hj1 hj2
  by_cases e : j = k
  rw [e]; exact hs
  exact key h3 j (by omega) hj2
theorem mh {f : Nat → Option (Tr × Nat)} : ∀ {a b k : Nat} {ts : List Tr} {k' : Nat}, bZ f (a + b) k = some (ts, k') → ∃ ts1 k1 ts2, bZ f a k = some (ts1, k1) ∧ bZ f b k1 = some (ts2, k')
 | 0, b, k, ts, k', h => ⟨[], k, ts, rfl, by rwa [Nat.zero_add] at h⟩
 | a + 1, b, k, ts, k', h => by
  rw [show a + 1 + b = (a + b) + 1 by omega] at h
  cases hx : f k with
  | none => rw [da hx] at h; cases h
  | some x =>
   obtain ⟨t, k1⟩ := x
   rw [cH hx] at h
   simp only [Option.map_eq_some_iff] at h
   obtain ⟨⟨ts1, k2⟩, h3, h4⟩ := h
   simp only [Prod.mk.injEq] at h4
   obtain ⟨_, rfl⟩ := h4
   obtain ⟨u1, k3, u2, h5, h6⟩ := mh h3
   exact ⟨t :: u1, k3, u2, by rw [cH hx, h5]; rfl, h6⟩
theorem j7 {body : List Sm} (hall : ∀ j, j < body.length → bb (body.getD j default) = true) : ∀ (d : Nat) {k q m : Nat}, body.length ≤ k + d → dU (body.drop k) q = some m → ∃ ts, bZ (bM body) q k = some (ts, k + m)
 | d, k, 0, m, hd, h => by
  rw [show ((0 : Nat) : Int) = 0 from Z, gJ (Int.le_refl _)] at h
  obtain rfl := Option.some.inj h
  exact ⟨[], Z⟩
 | 0, k, q + 1, m, hd, h => by
  rw [List.drop_of_length_le (by omega), li (by omega)] at h; cases h
 | d + 1, k, q + 1, m, hd, h => by
  by_cases hk : k < body.length
  rw [jX hk (by omega)] at h
  have hb := cu (body.getD k default).kind
  rw [show ((q + 1 : Nat) : Int) - 1 + ba (body.getD k default).kind = (((ba (body.getD k default).kind).toNat + q : Nat) : Int) by omega] at h
  simp only [Option.map_eq_some_iff] at h
  obtain ⟨m', h1, rfl⟩ := h
  obtain ⟨ts, h2⟩ := j7 hall d (by omega) h1
  obtain ⟨ts1, k1, ts2, h3, h4⟩ := mh h2
  have hkf : bK (body.getD k default) = ba (body.getD k default).kind := by unfold bK; rw [if_pos (hall k hk)]
  have h5 : bM body k = some (.node (body.getD k default) k ts1, k1) := by
   rw [jP, if_neg (by omega), if_neg (by omega), hkf, h3]; rfl
  exact ⟨.node (body.getD k default) k ts1 :: ts2, by rw [cH h5, h4, show k + (m' + 1) = k + 1 + m' by omega]; rfl⟩
  rw [List.drop_of_length_le (by omega), li (by omega)] at h; cases h
theorem ye {body : List Sm} : body.all bb = true ↔ ∀ j, j < body.length → bb (body.getD j default) = true := by
 rw [List.all_eq_true]
 constructor
 intro h j hj; rw [aK hj]; exact h _ (List.getElem_mem hj)
 intro h x hx
 obtain ⟨j, hj, rfl⟩ := List.mem_iff_getElem.1 hx
 have := h j hj
 rwa [aK hj] at this
theorem tS (body : List Sm) : gn body = qW body := by
 by_cases h30 : (30 : Int) < body.length
 unfold qW gn
 rw [if_pos h30, decide_eq_false (show ¬ (body.length : Int) ≤ 30 by omega), Bool.and_false, Bool.false_and]
 rw [Bool.eq_iff_iff]
 constructor
 intro h
 obtain ⟨h1, h2, h3, h4⟩ := qL h
 have h5 : dU (body.drop 0) ((1 : Nat) : Int) = some body.length := by
  unfold mE at h4
  cases hx : dU (body.drop 0) ((1 : Nat) : Int) with
  | none => rw [show ((1 : Int)) = ((1 : Nat) : Int) from Z, hx] at h4; have h9 : (-1 : Int) = body.length := h4; omega
  | some n =>
   rw [show ((1 : Int)) = ((1 : Nat) : Int) from Z, hx] at h4
   have : n = body.length := by simp at h4; omega
   rw [this]
 obtain ⟨ts, h6⟩ := j7 (ye.1 h3) body.length (by omega) h5
 cases hx : bM body 0 with
 | none => rw [da hx] at h6; cases h6
 | some x =>
  obtain ⟨t, k1⟩ := x
  rw [cH hx] at h6
  simp only [bZ, Option.map_some, eg, Prod.mk.injEq] at h6
  unfold qW
  rw [if_neg h30, show vZ body = some (t, k1) from hx]
  show (true && decide ((k1 : Int) = body.length)) = true
  rw [decide_eq_true (by omega)]; rfl
 intro h
 obtain ⟨t, h1, h2, h3⟩ := nJ h
 have h4 : bM body 0 = some (t, body.length) := h1
 have h5 := qE h4
 have h6 := (fX h4).1
 unfold gn
 rw [decide_eq_true (show (1 : Int) ≤ body.length by omega), decide_eq_true (show (body.length : Int) ≤ 30 by omega), ye.2 (fun j hj => nI h4 j (dm _) hj), decide_eq_true h5]
 rfl
structure Nd where
  kind : Int
  fact : Int
  term : Tm
  mul : List Int
  deriving Inhabited, DecidableEq
structure Sq where
  facts : List Tm
  goal : Tm
  deriving Inhabited, DecidableEq
abbrev Sq.cells (s : Sq) : List D := [dP s.facts, .int .i64 s.goal.c, c7 s.goal.xs]
abbrev aSq (s : Sq) : A := .agg (s.cells.map .d)
theorem pO {L : Nat} (h1 : 4096 ≤ L) (h2 : L ≤ 1073741824) {xs : List Int} : MC Tryz.prog L 88 [cm xs] [] (Plain (cm xs)) := (uB h1 h2).frozen (.v (.c (.whole rfl (cY _).symm)))
theorem xx {L : Nat} (h1 : 4096 ≤ L) (h2 : L ≤ 1073741824) {xs : List Int} : MC Tryz.prog L 127 [cm xs] [] (Plain (cm xs)) := (uz h1 h2).frozen (.v (.c (.whole rfl (cY _).symm)))
abbrev aG (ts : List Tm) : B := .row false 2 (ts.map Tm.cells)

theorem uD : MQ h1 h2 193 [ptr t.cells] [] (Plain (cP t)) := by
 refine MC.data (jB 13 h1 h2 Tryz.func193 Z Z Z fun O hF => ?_)
 refine ag (jl O Z (jn (ah (gv O [_,_,_,_,_,_,_,_,_,_,_] [pn [] 0 1, pn [0] 0 1, pn [0,1] 0 1, pn [0,1,2] 0 1, pn [] 0 0, pn [4] 0 0, pn [4,5] 0 0, pn [4,5,6] 0 0, pe (rg 4 4) 0, pn (rg 0 9) 1 1, pe (rg 0 10) 1] [8,10] [_,_,_] (ai (kc O Z (V O Z)) (ai (kc O Z (V O Z)) (ai (kc O Z (V O Z)) (ai (kc O Z (V O Z)) (kc O Z (kc O Z (kc O Z (kc O Z (ai (bH O (B0 := 12000) Z Z Z Z (pO (xs := t.xs) h1 h2) (ac Z) Z Z Z Z Z) (kc O Z (ai (eS O Z Z Z) trivial))))))))))) ?_))))
 refine fK ?_
 refine ⟨.inl Z, _, ar, _, Z, ?_⟩
 exact .v (.agg (aI Z))
theorem wL : MQ h1 h2 94 [cP t] [] (Plain (cP t)) := by
 refine MC.data (jB 9 h1 h2 Tryz.func94 Z Z Z fun O hF => ?_)
 refine ag (jx O Z (jl O Z (jn (ah (gv O [_,_,_,_,_,_,_] [pn [] 0 1, pn [0] 0 1, pn [] 0 0, pn [2] 0 0, pe [2,3] 0, pn (rg 0 5) 1 1, pe (rg 0 6) 1] [4,6] [_,_,_] (ai (kc O Z (V O Z)) (ai (kc O Z (V O Z)) (kc O Z (kc O Z (ai (bH O (B0 := 8000) Z Z Z Z (xx (xs := t.xs) h1 h2) (ac Z) Z Z Z Z Z) (kc O Z (ai (eS O Z Z Z) trivial))))))) ?_)))))
 refine fK ?_
 refine ⟨.inl Z, _, ar, _, Z, ?_⟩
 exact .v (.agg (aI Z))
theorem rt : MQ h1 h2 167 [b0 ts] [] (Rows (.c (.rs 0 0 ts.length)) [aG ts]) := by
 refine cw (jB 20 h1 h2 Tryz.func167 Z Z Z fun O hF => ?_)
 have hl : ts.length ≤ L := by simpa [As.fact, A.fact, M.fact, D.fact, Ds.fact] using hF.1.1
 refine ag (js O Z (bf (AOps.heap (bC O Z Z Z) Z (js O Z (jn (ah (ag (js O Z (jn (aw (aE (X := Nat) (fun i => ⟨[(0, b0 ts), (3, .c (.rs 900 0 i)), (4, eI i)], [(900, aG (ts.take i))]⟩) (fun i => i ≤ ts.length) (fun i => ts.length - i) 0 ((ck 5 Z).trans ((ae 5 900 Z Z).trans (Ent.to ⟨Z, Z, Z, trivial⟩ Z))) ?_ (fun i hi => ?_))))))))))))
 exact dm _
 refine ah (ag (j2 O Z Z (dn O Z (js O Z (jf [9,0,3,4] Z (jn (af O Z Z (fun hc9 => ?_) (fun hc9 => ?_))))))))
 try simp only [bL] at hc9
 refine an (ah (aw (am (j3 O Z Z Z (nq O Z Z (jf [15,12,9,0,3,4] Z (ak O Z Z Z Z (uD h1 h2) (ac Z) Z Z Z Z (B0 := 17000) Z Z (jf [16,12,9,0,3,4] Z (AOps.heap (bn O Z Z Z Z Z Z Z Z Z Z Z) Z (jf [17,12,9,0,3,4] Z (AOps.heap (bh (own := false) (zs := (ts.take (i + 1)).map Tm.cells) (n := i + 1) O Z Z Z Z Z Z Z Z Z Z Z Z Z Z Z Z (.row Z (by simp; omega)) (.whole Z Z (.inr ⟨Z, Z⟩)) (by simp) Z (by simp; omega) (by simp; omega) (by rw [List.take_succ_eq_append_getElem (by omega), List.map_append, Int.toNat_natCast, aK (by omega)]; rfl) (by simp; omega)) Z (js O Z (jf [3,9,0,4] Z (jn (am (js O Z (ji O Z (js O Z (jf [4,3,9,0] Z (jn ?_))))))))))))))))))))
 refine ⟨i + 1, (au [18] (e' := [(0, _), (3, _), (4, _)]) Z Z ⟨Z, Z, Z, trivial⟩ Z).trans (ae 18 900 Z Z), by omega, by omega⟩
 try simp only [bL] at hc9
 refine bt (ag (j2 O Z Z (jr ?_)))
 obtain rfl : i = ts.length := by omega
 rw [List.take_length]
 refine ⟨.inl Z, _, ar, _, Z, [900], by decide, Z, Z, Z⟩
theorem yS : MQ h1 h2 52 [b0 ts] [] (Rows (.c (.rs 0 0 ts.length)) [aG ts]) := by
 refine cw (jB 19 h1 h2 Tryz.func52 Z Z Z fun O hF => ?_)
 have hl : ts.length ≤ L := by simpa [As.fact, A.fact, M.fact, D.fact, Ds.fact] using hF.1.1
 refine ag (js O Z (bf (js O Z (jn (ah (ag (js O Z (dn O Z (js O Z (jn (aw (aE (X := Nat) (fun i => ⟨[(3, .c (.rs 900 0 i)), (6, b0 ts), (7, eI ts.length), (8, eI i)], [(900, aG (ts.take i))]⟩) (fun i => i ≤ ts.length) (fun i => ts.length - i) 0 ((dF 3 900 2 false Z Z).trans (Ent.to ⟨Z, Z, Z, Z, trivial⟩ Z)) ?_ (fun i hi => ?_)))))))))))))
 exact dm _
 refine ag (js O Z (jn (ah (af O Z Z (fun hc9 => ?_) (fun hc9 => ?_)))))
 try simp only [bL] at hc9
 refine an (ah (aw (ag (nq O Z Z (js O Z (jf [11,9,3,6,7,8] Z (jl O Z (jo O Z (jn (am (j2 O Z Z (ak O Z Z Z Z (wL h1 h2) (ac Z) Z Z Z Z (B0 := 15000) Z Z (jf [14,12,5,11,9,3,6,7,8] Z (AOps.heap (bn O Z Z Z Z Z Z Z Z Z Z Z) Z (jf [15,12,5,11,9,3,6,7,8] Z (AOps.heap (bh (own := false) (zs := (ts.take (i + 1)).map Tm.cells) (n := i + 1) O Z Z Z Z Z Z Z Z Z Z Z Z Z Z Z Z (.row Z (by simp; omega)) (.whole Z Z (.inr ⟨Z, Z⟩)) (by simp) Z (by simp; omega) (by simp; omega) (by rw [List.take_succ_eq_append_getElem (by omega), List.map_append, Int.toNat_natCast, aK (by omega)]; rfl) (by simp; omega)) Z (js O Z (jf [3,5,11,9,6,7,8] Z (jn (am (ji O Z (js O Z (jn ?_)))))))))))))))))))))))
 refine ⟨i + 1, (au [16] (e' := [(3, _), (6, _), (7, _), (8, _)]) Z Z ⟨Z, Z, Z, Z, trivial⟩ Z).trans (ae 16 900 Z Z), by omega, by omega⟩
 try simp only [bL] at hc9
 refine bt (ag (j2 O Z Z (jr ?_)))
 obtain rfl : i = ts.length := by omega
 rw [List.take_length]
 refine ⟨.inl Z, _, ar, _, Z, [900], by decide, Z, Z, Z⟩
theorem tZ {L : Nat} (h1 : 4096 ≤ L) (h2 : L ≤ 1073741824) {ts : List Tm} : MC Tryz.prog L 167 [b0 ts] [] (Plain (b0 ts)) := (rt h1 h2).frozen (.v (.c (.whole rfl (cY _).symm)))
theorem c91 {L : Nat} (h1 : 4096 ≤ L) (h2 : L ≤ 1073741824) {ts : List Tm} : MC Tryz.prog L 52 [b0 ts] [] (Plain (b0 ts)) := (yS h1 h2).frozen (.v (.c (.whole rfl (cY _).symm)))
def dy (xs : List Int) : List Int := (xs.reverse.dropWhile (· == 0)).reverse
theorem qu {xs : List Int} : dy (xs ++ [0]) = dy xs := by simp [dy]
theorem qv {xs : List Int} {x : Int} (h : x ≠ 0) : dy (xs ++ [x]) = xs ++ [x] := by simp [dy, h]
theorem l7 {xs : List Int} {n : Nat} (h : n < xs.length) (h0 : xs.getD n default = 0) : dy (xs.take (n + 1)) = dy (xs.take n) := by
 rw [List.take_succ_eq_append_getElem h, ← aK h, h0, qu]
theorem l8 {xs : List Int} {n : Nat} (hn : n ≤ xs.length) (h : n = 0 ∨ xs.getD (n - 1) default ≠ 0) : dy (xs.take n) = xs.take n := by
 cases n with
 | zero => simp [dy]
 | succ n =>
  have h' : xs.getD n default ≠ 0 := by
   rcases h with h | h
   cases h
   exact h
  rw [aK (by omega)] at h'
  rw [List.take_succ_eq_append_getElem (by omega), qv h']
def ns (c : Int) (xs : List Int) : Tm × Bool := if (Tm.mk c (dy xs)).ok = true then (⟨c, dy xs⟩, true) else (⟨0, []⟩, false)
abbrev lS (r : Tm × Bool) : A := .tup [cP r.1, eB r.2]
def i5 (a : Tm) (m : Int) (b : Tm) (n : Int) : List Int := (List.range 10).map fun i => m * a.xs.getD i 0 + n * b.xs.getD i 0
def rc (a : Tm) (m : Int) (b : Tm) (n : Int) : Tm × Bool := ns (m * a.c + n * b.c) (i5 a m b n)
def bo (t : Tm) : Tm × Bool := rc t (-1) ⟨1, []⟩ (-1)
structure Small (t : Tm) : Prop where
  c : num t.c = true
  xs : t.xs.all num = true
theorem eL {a b : Int} (h1 : num a = true) (h2 : num b = true) : -1000000000000 ≤ a * b ∧ a * b ≤ 1000000000000 := by
 have h1 := ya.1 h1
 have h2 := ya.1 h2
 have h3 : a.natAbs ≤ 1000000 := by omega
 have h4 : b.natAbs ≤ 1000000 := by omega
 have h5 := Nat.mul_le_mul h3 h4
 rw [← Int.natAbs_mul] at h5
 omega
theorem Small.get {t : Tm} (h : Small t) (i : Nat) : num (t.xs.getD i 0) = true := by
 by_cases hi : i < t.xs.length
 have : t.xs.getD i 0 = t.xs[i] := by simp [hi]
 rw [this]
 exact List.all_eq_true.1 h.xs _ (List.getElem_mem hi)
 have : t.xs.getD i 0 = 0 := by simp [Nat.not_lt.1 hi]
 rw [this]; decide
theorem Small.of {t : Tm} (h : t.ok = true) : Small t := by
 simp only [Tm.ok, bJ, Bool.not_eq_true'] at h
 refine ⟨?_, h.2⟩
 cases hn : num t.c with
 | true => rfl
 | false => rw [hn] at h; simp at h
theorem qw {a b : Tm} {m n : Int} {i : Nat} (h : i < 10) : (i5 a m b n).take (i + 1) = (i5 a m b n).take i ++ [m * a.xs.getD i 0 + n * b.xs.getD i 0] := by
 rw [List.take_succ_eq_append_getElem (by simpa [i5] using h)]
 simp [i5]
theorem dC {a b : Tm} {m n : Int} : (i5 a m b n).length = 10 := by simp [i5]
theorem oy {t : Tm} (h : t.ok = true) : t.xs.length ≤ 10 := by
 simp only [Tm.ok, bJ, Bool.not_eq_true'] at h
 by_cases h1 : (10 : Int) < t.xs.length
 rw [decide_eq_true h1] at h
 cases num t.c <;> simp at h
 omega
theorem ru {c : Int} : MQ h1 h2 47 [eI c, cm xs] [] (Plain (lS (ns c xs))) := by
 refine MC.data (jB 32 h1 h2 Tryz.func47 Z Z Z fun O hF => ?_)
 have hl : xs.length ≤ L := by simpa [As.fact, A.fact, M.fact, D.fact, Ds.fact] using hF.2.1.1
 refine ag (jl O Z (js O Z (bf (js O Z (dn O Z (js O Z (jf [6,5,4,0,1] Z (jn (ah (aw (aE (X := Nat) (fun n => ⟨[(0, eI c), (1, cm xs), (4, .c (.pt 4 0 0)), (6, eI n)], [(4, .box [.d (.int .i64 0), .d .nils])]⟩) (fun n => n ≤ xs.length ∧ dy (xs.take n) = dy xs) (fun n => n) xs.length (Ent.env ⟨Z, Z, Z, Z, trivial⟩) ?_ (fun n hi => ?_))))))))))))
 exact ⟨cz _, by rw [List.take_length]⟩
 refine ah (ag (j3 O Z Z Z (jf [12,0,1,4,6] Z (ax 6 Z Z Z (fun hx => ab hx Z Z Z (V O Z) Z Z ( ab hx Z Z Z (V O Z) Z Z ( ab hx Z Z Z (vF O Z) Z Z ( ab hx Z Z Z (vD O Z) Z Z ( ab hx Z Z Z (V O Z) Z Z ( ab hx Z Z Z (V O Z) Z Z ( AN.nil))))))) Z Z (aa (ao O Z Z Z Z Z) Z Z Z (jf [19,0,1,4,6] Z (jn (af O Z Z (fun hc19 => ?_) (fun hc19 => ?_)))))))))
 refine an (aw (am (js O Z (ji O Z (js O Z (jf [6,19,0,1,4] Z (jn ?_)))))))
 rw [Bool.cond_false_right, bJ, decide_eq_true_eq, decide_eq_true_eq] at hc19
 obtain ⟨k, hk⟩ : ∃ k, n = k + 1 := ⟨n - 1, by omega⟩
 subst hk
 have hk2 : ((k + 1 : Nat) : Int) - 1 = k := by omega
 rw [hk2] at hc19
 refine ⟨k, Ent.to ⟨Z, Z, Z, by rw [hk2]; rfl, trivial⟩ Z, ⟨by omega, ?_⟩, Nat.lt_succ_self k⟩
 rw [← hi.2, l7 (by omega) (by simpa using hc19.2)]
 refine bt (ag (j3 O Z Z Z ?_))
 have hd : dy (xs.take n) = xs.take n := l8 hi.1 (by
  rw [Bool.cond_false_right] at hc19
  rcases Nat.eq_zero_or_pos n with h0 | h0
  ·
   exact .inl h0
  ·
   refine .inr (fun h9 => ?_)
   have e1 : ((n : Int) - 1).toNat = n - 1 := by omega
   rw [e1, h9] at hc19; simp at hc19; omega)
 have ht := hi.2
 rw [hd] at ht
 refine aa ((dw O Z Z ⟨by omega, by simp; omega⟩).cast (v' := cm (dy xs)) (by rw [← ht]; simp [List.map_take])) Z Z Z (jf [25,22,19,0,1,4,6] Z (ak O Z Z Z Z (pO (xs := dy xs) h1 h2) (ac Z) Z Z Z Z (B0 := 27000) Z Z (js O Z (jf [27,19,0,1,4,6] Z (jl O Z (jo O Z (jn (ah (ag (aA O Z Z Z Z (td (t := ⟨c, dy xs⟩) h1 h2) (.cons (.c (.pb (cs := Tm.cells ⟨c, dy xs⟩) Z (aI Z))) .nil) Z Z Z Z Z (B0 := 29000) Z (js O Z (jn (af O Z Z (fun hc29 => ?_) (fun hc29 => ?_))))))))))))))
 refine ag (js O Z (jo O Z (js O Z (jr ?_))))
 refine ⟨.inl Z, _, ar, _, Z, ?_⟩
 have hok : (Tm.mk c (dy xs)).ok = false := by simpa using hc29
 rw [show ns c xs = (⟨0, []⟩, false) from if_neg (by rw [hok]; decide)]
 exact .tup (.cons (.agg (.cons .d (.cons .nils .nil))) (.cons (.c .d) .nil))
 refine an (ag (js O Z (jo O Z (js O Z (jr ?_)))))
 refine ⟨.inl Z, _, ar, _, Z, ?_⟩
 have hok : (Tm.mk c (dy xs)).ok = true := by simpa using hc29
 rw [show ns c xs = (⟨c, dy xs⟩, true) from if_pos hok]
 exact .tup (.cons (.agg (aI Z)) (.cons (.c .d) .nil))
theorem wB {i : Nat} (hi : i < 10) : MQ h1 h2 203 [ptr t.cells, eI i] [] (Plain (eI (t.xs.getD i 0))) := by
 refine aP ?_ Z
 refine jB 19 h1 h2 Tryz.func203 Z Z Z fun O hF => ?_
 have hl : t.xs.length ≤ L := by simpa [As.fact, A.fact, M.fact, D.fact, Ds.fact] using hF.1.2.1.1
 refine ag (js O Z (jn (ah (ag (j4 O Z Z Z Z (js O Z (dn O Z (js O Z (jf [11,4,0,1] Z (jn (af O Z Z (fun hc11 => ?_) (fun hc11 => ?_))))))))))))
 try simp only [bL] at hc11
 refine ag (j4 O Z Z Z Z (js O Z (nq O Z Z (j2 O Z Z (jf [4,0,1] Z (jr ?_))))))
 refine ⟨.inl Z, _, ar, _, Z, ?_⟩
 rw [Int.toNat_natCast]
 have : t.xs.getD i 0 = t.xs.getD i default := rfl
 rfl
 try simp only [bL] at hc11
 refine an (ag (js O Z (jr ?_)))
 refine ⟨.inl Z, _, ar, _, Z, ?_⟩
 have : t.xs.getD i 0 = 0 := by simp [show t.xs.length ≤ i by omega]
 rw [this]
theorem wE {a b : Tm} {m : Int} (ha : Small a) (hb : Small b) (hm : num m = true) (hn : num n = true) : MQ h1 h2 181 [ptr a.cells, eI m, ptr b.cells, eI n] [] (Plain (lS (rc a m b n))) := by
 refine MC.data (jB 48 h1 h2 Tryz.func181 Z Z Z fun O hF => ?_)
 refine ag (jl O Z (js O Z (bf (AOps.heap (bC O Z Z Z) Z (js O Z (jn (ah (ag (js O Z (jn (aw (aE (X := Nat) (fun i => ⟨[(0, ptr a.cells), (1, eI m), (2, ptr b.cells), (3, eI n), (8, .c (.pt 8 0 0)), (10, .c (.rs 900 0 i)), (11, eI i)], [(8, .box [.d (.int .i64 0), .d .nils]), (900, aZ ((i5 a m b n).take i))]⟩) (fun i => i ≤ 10) (fun i => 10 - i) 0 ((ae 12 900 Z Z).trans (Ent.to ⟨Z, Z, Z, Z, Z, Z, Z, trivial⟩ Z)) ?_ (fun i hi => ?_)))))))))))))
 exact dm _
 refine ah (ag (j2 O Z Z (jn (af O Z Z (fun hc14 => ?_) (fun hc14 => ?_)))))
 try simp only [bL] at hc14
 refine an (ah (aw (am ?_)))
 have q1 := eL hm (ha.get i)
 have q2 := eL hn (hb.get i)
 refine j4 O Z Z Z Z (aA O Z Z Z Z (wB (t := a) (i := i) h1 h2 (by omega)) (ac Z) Z Z Z Z Z (B0 := 22000) Z (ji O Z (j3 O Z Z Z (jf [25,24,23,22,17,14,13,0,1,2,3,8,10,11] Z (aA O Z Z Z Z (wB (t := b) (i := i) h1 h2 (by omega)) (ac Z) Z Z Z Z Z (B0 := 27000) Z (ji O Z (ji O Z (jf [28,17,14,13,0,1,2,3,8,10,11] Z (AOps.heap (bC O Z Z Z) Z (jf [29,17,14,13,0,1,2,3,8,10,11] Z (AOps.heap (cU (zs := ((i5 a m b n).take (i + 1)).map fun n => [.int .i64 n]) (n := i + 1) O Z Z Z Z Z Z Z Z Z Z Z Z Z Z Z Z (.row Z (by simp [dC]; omega)) Z Z (by decide) Z (by simp [dC]; omega) (by simp [dC]; omega) (by rw [qw (by omega), List.map_append]; rfl) (by simp [dC]; omega)) Z (js O Z (jf [10,14,13,0,1,2,3,8,11] Z (jn (am (js O Z (ji O Z (js O Z (jf [11,10,14,13,0,1,2,3,8] Z (jn ?_))))))))))))))))))))
 refine ⟨i + 1, ((au [8,30] (e' := [(0, _), (1, _), (2, _), (3, _), (8, _), (10, _), (11, _)]) Z Z ⟨Z, Z, Z, Z, Z, Z, Z, trivial⟩ Z).trans (ae 30 900 Z Z)), by omega, by omega⟩
 try simp only [bL] at hc14
 refine bt (ah ?_)
 obtain rfl : i = 10 := by omega
 rw [List.take_of_length_le (by rw [dC]; decide)]
 have q1 := eL hm ha.c
 have q2 := eL hn hb.c
 refine kK (Ent.freeze 900 (e' := [(10, _), (8, _), (0, _), (1, _), (2, _), (3, _)]) Z (.cons Z (.c (.row Z (by simp [dC]))) (fe [8,0,1,2,3] Z)) (.cons Z (.box (fk Z)) (.skip .nil))) ?_
 refine gv O [_,_,_,_,_,_,_,_,_,_,_,_,_,_,_,_,_,_,_] [pn [] 0 0, pn [] 0 0, pn [1] 0 0, pn [1,2] 0 0, pn [1,2,3] 0 0, pn (rg 0 5) 0 0, pn [] 0 0, pn [] 0 0, pn [7] 0 0, pn [7,8] 0 0, pn [7,8,9] 0 0, pn (rg 6 5) 0 0, pn (rg 0 12) 0 0, pn [] 0 0, pe (rg 0 14) 0, pn (rg 0 15) 1 1, pn (rg 0 15) 1 1, pe (rg 0 17) 1, pn (rg 0 18) 2 2] [14,17] [_,_,_] (kc O Z (kc O Z (kc O Z (kc O Z (kc O Z (ai (vF O Z) (kc O Z (kc O Z (kc O Z (kc O Z (kc O Z (ai (vF O Z) (ai (vF O Z) (kc O Z (ai (bH O (B0 := 46000) Z Z Z Z (ru (c := m * a.c + n * b.c) (xs := i5 a m b n) h1 h2) (ac Z) Z Z Z Z Z) (kc O Z (kc O Z (ai (eS O Z Z Z) (kc O Z trivial))))))))))))))))))) ?_
 refine jw [9,10,8,0,1,2,3] Z (bQ ?_)
 refine fK ?_
 refine ⟨.inl Z, _, ar, _, Z, ?_⟩
 exact .tup (.cons (.agg (aI Z)) (.cons (.c .d) .nil))
theorem wH (ht : Small t) : MQ h1 h2 144 [ptr t.cells] [] (Plain (lS (bo t))) := by
 refine MC.data (jB 10 h1 h2 Tryz.func144 Z Z Z fun O hF => ?_)
 refine ag (jl O Z (js O Z (bf (j2 O Z Z (jf [5,4,3,2] Z (jx O Z (jf [6,4,3,2] Z (aj (Ent.freeze 6 (e' := [(6, _), (4, _), (2, _)]) Z (.cons Z (.c (.box (cs := Tm.cells ⟨1, []⟩) Z (.cons .d (.cons .nils .nil)))) (fe [4,2] Z)) (.cons Z (.box (fk Z)) (.skip .nil))) ?_))))))))
 refine ak O Z Z Z Z (wE (a := t) (m := -1) (b := ⟨1, []⟩) (n := -1) h1 h2 ht ⟨by decide, by decide⟩ (by decide) (by decide)) (ac Z) Z Z Z Z (B0 := 8000) Z Z (j2 O Z Z (jf [9,8,2] Z (jo O Z (js O Z (jf [3,2] Z (jr ?_))))))
 refine ⟨.inl Z, _, ar, _, Z, ?_⟩
 exact .tup (.cons (.agg (aI Z)) (.cons (.c .d) .nil))
def eX (ts : List Tm) (n : Int) : Bool := ts.all Tm.ok && decide ((ts.length : Int) ≤ n)
def nu (s : Sq) : Bool := eX s.facts 13 && s.goal.ok
def co (x : Int) : Bool := decide (0 ≤ x) && decide (x ≤ 1000000)
def dl (k : Int) : Int := if k = 1 then -1 else if k = 2 then 1 else 0
def wy : List Nd → Int → Option Nat
  | [], need => if need ≤ 0 then some 0 else none
  | s :: r, need => if need ≤ 0 then some 0 else (wy r (need + dl s.kind)).map (· + 1)
def yP (p : List Nd) (k : Nat) : Int := match wy (p.drop k) 1 with
  | some n => k + n
  | none => -1
def wa (p : List Nd) (k : Nat) : Nat → Int × Bool
  | 0 => (-1, false)
  | i + 1 => if (p.getD i default).kind = 1 ∨ yP p i ≤ k then wa p k i else (i, decide (i + 1 = k))
theorem y8 : MQ h1 h2 135 [b0 ts, eI n] [] (Plain (eB (eX ts n))) := by
 refine aP ?_ Z
 refine jB 21 h1 h2 Tryz.func135 Z Z Z fun O hF => ?_
 have hl : ts.length ≤ L := by simpa [As.fact, A.fact, M.fact, D.fact, Ds.fact] using hF.1.1
 refine ag (js O Z (jn (ah (ag (js O Z (jn (aw (aE (X := Nat) (fun i => ⟨[(0, b0 ts), (1, eI n), (5, eI i)], []⟩) (fun i => i ≤ ts.length ∧ ∀ j (h : j < ts.length), j < i → Tm.ok ts[j] = true) (fun i => ts.length - i) 0 (Ent.env ⟨Z, Z, Z, trivial⟩) ?_ (fun i hi => ?_)))))))))
 exact ⟨dm _, fun j h hj => absurd hj (Nat.not_lt_zero j)⟩
 refine ah (ag (j2 O Z Z (dn O Z (js O Z (jn (af O Z Z (fun hc9 => ?_) (fun hc9 => ?_)))))))
 try simp only [bL] at hc9
 refine an (ah (aw (ag (j2 O Z Z (nq O Z Z (aA O Z Z Z Z (td h1 h2) (ac Z) Z Z Z Z Z (B0 := 16000) Z (js O Z (jn (af O Z Z (fun hc16 => ?_) (fun hc16 => ?_))))))))))
 try simp only [bL] at hc16
 refine ag (js O Z (jr ?_))
 refine ⟨.inl Z, _, ar, _, Z, ?_⟩
 rw [Int.toNat_natCast, aK (by omega)] at hc16
 rw [eX, fG i (by omega) hc16, Bool.false_and]
 try simp only [bL] at hc16
 refine an (am (js O Z (ji O Z (js O Z (jn ?_)))))
 refine ⟨i + 1, Ent.env ⟨Z, Z, Z, trivial⟩, ⟨by omega, fun j h hj => ?_⟩, by omega⟩
 by_cases e : j = i
 subst e; rw [Int.toNat_natCast, aK h] at hc16; exact hc16
 exact hi.2 j h (by omega)
 try simp only [bL] at hc9
 refine bt (ag (js O Z (dn O Z (j3 O Z Z Z (jr ?_)))))
 refine ⟨.inl Z, _, ar, _, Z, ?_⟩
 rw [eX, gc (fun j hj => hi.2 j hj (by omega)), Bool.true_and]
theorem c82 {s : Sq} : MQ h1 h2 92 [ptr s.cells] [] (Plain (eB (nu s))) := by
 refine aP ?_ Z
 refine jB 14 h1 h2 Tryz.func92 Z Z Z fun O hF => ?_
 refine ag (js O Z (bf (j4 O Z Z Z Z (bc [(6, _), (2, _), (0, _)] [] ⟨Z, Z, Z, trivial⟩ Z (aA O Z Z Z Z (y8 h1 h2) (ac Z) Z Z Z Z Z (B0 := 8000) Z (js O Z (bc [(8, _), (2, _), (0, _)] [] ⟨Z, Z, Z, trivial⟩ Z (ax 4 Z Z Z (fun hx => ab hx Z Z Z (V O Z) Z Z ( ab hx Z Z Z (V O Z) Z Z ( ab hx Z Z Z (V O Z) Z Z ( bv O hx Z Z Z Z (td (t := s.goal) h1 h2) (.cons (.c (.sub Z)) .nil) Z Z Z Z Z Z Z (B0 := 13000) Z ( AN.nil))))) Z Z (aa (ao O Z Z Z Z Z) Z Z Z (js O Z (jf [2] Z (jr ?_))))))))))))
 refine ⟨.inl Z, _, ar, _, Z, ?_⟩
 rw [Bool.cond_false_right]; rfl
def ro (xs : List Int) : Nat := xs.foldl (fun g x => Nat.gcd g x.natAbs) 0
def mx (a b : Int) : Int := if a > b then a else b
def rO (t : Tm) : Tm × Bool := if ro t.xs < 2 then (⟨0, []⟩, false) else
  ns (if t.c.tmod (ro t.xs) < 0 then t.c.tdiv (ro t.xs) - 1 else t.c.tdiv (ro t.xs)) (t.xs.map fun x => x.tdiv (ro t.xs))
def vS (n : Nd) (ctx : List Tm) (first : Bool) : List Tm := if n.kind = 3 then ctx ++ [(rO (ctx.getD n.fact.toNat default)).1] else if first = true then ctx ++ [n.term] else ctx ++ [(bo n.term).1]
def cF (f : Tm → Int) : List Tm → List Int → Int
  | t :: ts, m :: ms => m * f t + cF f ts ms
  | _, _ => 0
theorem f5 {f : Tm → Int} : ∀ {ts : List Tm} {ms : List Int} {i : Nat}, i < ts.length → i < ms.length → cF f (ts.take (i + 1)) (ms.take (i + 1)) = cF f (ts.take i) (ms.take i) + ms.getD i default * f (ts.getD i default)
 | [], _, i, h, _ => by simp at h
 | _ :: _, [], i, _, h => by simp at h
 | x :: xs, y :: ys, 0, _, _ => by simp [cF]
 | x :: xs, y :: ys, i + 1, h1, h2 => by
  have := f5 (f := f) (ts := xs) (ms := ys) (i := i) (by simpa using h1) (by simpa using h2)
  simp only [List.take_succ_cons, cF, List.getD_cons_succ] at this ⊢
  omega
theorem jd {f : Tm → Int} {ts : List Tm} {ms : List Int} (hf : ∀ t ∈ ts, num (f t) = true) (hm : ms.all num = true) : ∀ {i : Nat}, i ≤ ts.length → i ≤ ms.length → -(i * 1000000000000 : Int) ≤ cF f (ts.take i) (ms.take i) ∧ cF f (ts.take i) (ms.take i) ≤ i * 1000000000000
 | 0, _, _ => by simp [cF]
 | i + 1, h1, h2 => by
  have ih := jd hf hm (i := i) (by omega) (by omega)
  rw [f5 (by omega) (by omega)]
  have a1 := hf _ (List.getElem_mem (show i < ts.length by omega))
  have a2 := List.all_eq_true.1 hm _ (List.getElem_mem (show i < ms.length by omega))
  have := eL a2 a1
  rw [aK (by omega), aK (by omega)]
  omega
abbrev oq (k : Nat) : Tm → Int := fun t => t.xs.getD k 0
def cx (ts : List Tm) (ms : List Int) : List Int := (List.range 10).map fun k => cF (oq k) ts ms
def tK (ctx : List Tm) (ms : List Int) : Bool := decide (ctx.length = ms.length) && ((cx ctx ms).all (fun x => decide (x = 0)) && decide (cF Tm.c ctx ms < 0))
def rS (n : Nd) (ctx : List Tm) : Bool := if n.kind = 1 then tK ctx n.mul else if 20 ≤ ctx.length then false else if n.kind = 2 then (bo n.term).2 else if n.fact ≥ ctx.length then false else (rO (ctx.getD n.fact.toNat default)).2

def eC (ts : List Tm) (ms : List Int) (i j : Nat) : List Int := (List.range 10).map fun k => cF (oq k) (ts.take i) (ms.take i) + (if k < j then ms.getD i default * (ts.getD i default).xs.getD k 0 else 0)
theorem dD {ts ms i j} : (eC ts ms i j).length = 10 := by simp [eC]
theorem mb {ts ms i} : eC ts ms i 0 = cx (ts.take i) (ms.take i) := by simp [eC, cx]
theorem k7 {ts ms i j} (h : j < 10) : (eC ts ms i j).getD j default = cF (oq j) (ts.take i) (ms.take i) := by
 rw [aK (by rw [dD]; exact h)]
 simp [eC]
theorem md {ts ms i j} (h : j < 10) : (eC ts ms i j).set j ((eC ts ms i j).getD j default + ms.getD i default * (ts.getD i default).xs.getD j default) = eC ts ms i (j + 1) := by
 rw [k7 h]
 apply List.ext_getElem?
 intro k
 rw [List.getElem?_set]
 by_cases hk : k < 10
 by_cases e : j = k
 subst e
 rw [if_pos Z, if_pos (by rw [dD]; exact h)]
 simp [eC, h]
 rw [if_neg e]
 have h3 : (k < j + 1) = (k < j) := by apply propext; omega
 simp only [eC, List.getElem?_map, List.getElem?_range hk, Option.map_some, h3]
 have h1 : (eC ts ms i j)[k]? = none := List.getElem?_eq_none (by rw [dD]; omega)
 have h2 : (eC ts ms i (j + 1))[k]? = none := List.getElem?_eq_none (by rw [dD]; omega)
 rw [if_neg (by omega), h1, h2]
theorem nQ {ts ms i j} (h1 : i < ts.length) (h2 : i < ms.length) (h : (ts.getD i default).xs.length ≤ j) : eC ts ms i j = cx (ts.take (i + 1)) (ms.take (i + 1)) := by
 unfold eC cx
 apply List.map_congr_left
 intro k hk
 rw [f5 h1 h2]
 by_cases e : k < j
 rw [if_pos e]
 rw [if_neg e]
 show _ + 0 = _ + _ * (ts.getD i default).xs.getD k 0
 rw [show (ts.getD i default).xs.getD k 0 = 0 by rw [List.getD_eq_getElem?_getD, List.getElem?_eq_none (by omega)]; rfl, Int.mul_zero]
theorem jA {ts ms} : (cx ts ms).length = 10 := by simp [cx]
structure CtxOk (ctx : List Tm) : Prop where
  ok : ∀ t ∈ ctx, t.ok = true
  len : ctx.length ≤ 1000
theorem CtxOk.get {ctx : List Tm} (h : CtxOk ctx) {i : Nat} (hi : i < ctx.length) : (ctx.getD i default).ok = true := by rw [aK hi]; exact h.ok _ (List.getElem_mem hi)
end Go.Al
