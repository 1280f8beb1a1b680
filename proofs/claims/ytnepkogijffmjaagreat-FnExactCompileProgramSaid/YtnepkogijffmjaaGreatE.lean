/- Contracts of the functions that say whether a program is valid; the tree of a program. -/
import Derived.Test.YtnepkogijffmjaaGreatD
namespace Go.Al
open Go.Proofs
set_option linter.unusedVariables false
set_option linter.unusedSimpArgs false
set_option maxRecDepth 10000
def Tm.term (t : Tm) : Bool := t.ok && decide ((t.xs.length : Int) ≤ 4)
def terms (ts : List Tm) (n : Int) : Bool := ts.all Tm.term && decide ((ts.length : Int) ≤ n)
def below (k : Int) : Int := if k = 1 then 2 else if k = 7 then 2 else if k = 8 then 1 else 0
/-- How many elements a statement has that needs so many parts. -/
def endL : List Sm → Int → Option Nat
  | [], need => if need ≤ 0 then some 0 else none
  | s :: r, need => if need ≤ 0 then some 0 else (endL r (need + (below s.kind - 1))).map (· + 1)
def endR (body : List Sm) (k : Nat) : Int := match endL (body.drop k) 1 with
  | some n => k + n
  | none => -1
def Tm.zero (t : Tm) : Bool := decide (t.c = 0) && decide ((t.xs.length : Int) = 0)

theorem c149 {L : Nat} (h1 : 4096 ≤ L) (h2 : L ≤ 1073741824) {t : Tm} : MC Tryz.prog L 83 [ptr t.cells] [] (Plain (eB t.term)) := by
 refine MC.alone ?_ rfl
 have hσ := SGok (nt := 13) h1 (Nat.le_trans h2 (by decide))
 refine MC.body hσ Tryz.func83 (by kernel_rfl) rfl rfl (Nat.le_of_ble_eq_true rfl) (fun hF => ?_)
 refine jsr ?_
 refine jst hσ rfl rfl rfl rfl rfl ?_
 refine jns ?_
 refine jst hσ rfl rfl rfl rfl rfl ?_
 refine AOps.lone hσ rfl rfl rfl rfl (c136 h1 h2) (VAs.self rfl) rfl rfl rfl rfl rfl (B0 := 5000) rfl ?_
 refine jst hσ rfl rfl rfl rfl rfl ?_
 refine AOps.gr 6 rfl rfl rfl (fun hx => AN.step hx rfl rfl rfl (Val.of hσ rfl rfl) rfl rfl ( AN.step hx rfl rfl rfl (Val.of hσ rfl rfl) rfl rfl ( AN.step hx rfl rfl rfl (Val.of hσ rfl rfl) rfl rfl ( AN.step hx rfl rfl rfl (Val.of hσ rfl rfl) rfl rfl ( AN.step hx rfl rfl rfl (Val.lenD hσ rfl rfl rfl rfl rfl rfl rfl rfl) rfl rfl ( AN.step hx rfl rfl rfl (Val.of hσ rfl rfl) rfl rfl ( AN.nil))))))) rfl rfl ?_
 first | refine AOps.step (Val.pickT hσ rfl rfl rfl rfl rfl) rfl rfl rfl ?_ | refine AOps.step (Val.pickF hσ rfl rfl rfl rfl rfl) rfl rfl rfl ?_ | refine AOps.step (Val.pickB hσ rfl rfl rfl rfl rfl) rfl rfl rfl ?_
 refine jst hσ rfl rfl rfl rfl rfl ?_
 refine jn ?_
 refine AWP.ret ?_
 refine ⟨.inl rfl, _, Ent.refl, _, rfl, ?_⟩
 rw [Bool.cond_false_right]; rfl
theorem c101 {L : Nat} (h1 : 4096 ≤ L) (h2 : L ≤ 1073741824) {ts : List Tm} {n : Int} : MC Tryz.prog L 49 [atms ts, eI n] [] (Plain (eB (terms ts n))) := by
 refine MC.alone ?_ rfl
 have hσ := SGok (nt := 21) h1 (Nat.le_trans h2 (by decide))
 refine MC.body hσ Tryz.func49 (by kernel_rfl) rfl rfl (Nat.le_of_ble_eq_true rfl) (fun hF => ?_)
 have hl : ts.length ≤ L := by simpa [As.fact, A.fact, M.fact, D.fact, Ds.fact] using hF.1.1
 refine jsr ?_
 refine jst hσ rfl rfl rfl rfl rfl ?_
 refine jn ?_
 refine AWP.seq ?_
 refine jsr ?_
 refine jst hσ rfl rfl rfl rfl rfl ?_
 refine jn ?_
 refine AWP.block ?_
 refine AWP.loopP (X := Nat) (fun i => ⟨[(0, atms ts), (1, eI n), (5, eI i)], []⟩) (fun i => i ≤ ts.length ∧ ∀ j (h : j < ts.length), j < i → Tm.term ts[j] = true) (fun i => ts.length - i) 0 (Ent.env ⟨rfl, rfl, rfl, trivial⟩) ?_ (fun i hi => ?_)
 ·
  exact ⟨Nat.zero_le _, fun j h hj => absurd hj (Nat.not_lt_zero j)⟩
 refine AWP.seq ?_
 refine jsr ?_
 iterate 2 refine jst hσ rfl rfl rfl rfl rfl ?_
 first | refine jle hσ rfl rfl rfl rfl rfl rfl rfl rfl rfl rfl rfl ?_ | refine jst hσ rfl rfl rfl rfl rfl ?_ | refine jvf hσ rfl rfl rfl rfl rfl ?_
 refine jst hσ rfl rfl rfl rfl rfl ?_
 refine jn ?_
 refine AWP.cond hσ rfl rfl (fun hc9 => ?_) (fun hc9 => ?_)
 ·
  try simp only [jcs] at hc9
  refine AWP.skip ?_
  refine AWP.seq ?_
  refine AWP.block ?_
  refine jsr ?_
  iterate 2 refine jst hσ rfl rfl rfl rfl rfl ?_
  first | refine jix hσ rfl rfl rfl rfl rfl rfl rfl rfl rfl rfl rfl ?_ | refine jvf hσ rfl rfl rfl rfl rfl ?_
  refine AOps.lone hσ rfl rfl rfl rfl (c149 h1 h2) (VAs.self rfl) rfl rfl rfl rfl rfl (B0 := 16000) rfl ?_
  refine jst hσ rfl rfl rfl rfl rfl ?_
  refine jn ?_
  refine AWP.cond hσ rfl rfl (fun hc16 => ?_) (fun hc16 => ?_)
  ·
   try simp only [jcs] at hc16
   refine jsr ?_
   refine jst hσ rfl rfl rfl rfl rfl ?_
   refine jn ?_
   refine AWP.ret ?_
   refine ⟨.inl rfl, _, Ent.refl, _, rfl, ?_⟩
   rw [Int.toNat_natCast, getD_lt (by omega)] at hc16
   rw [terms, all_not i (by omega) hc16, Bool.false_and]
  ·
   try simp only [jcs] at hc16
   refine AWP.skip ?_
   refine AWP.region ?_
   refine jst hσ rfl rfl rfl rfl rfl ?_
   first | refine jfi hσ rfl rfl rfl rfl rfl ?_ | refine jvf hσ rfl rfl rfl rfl rfl ?_
   refine jst hσ rfl rfl rfl rfl rfl ?_
   refine jn ?_
   refine ⟨i + 1, Ent.env ⟨rfl, rfl, rfl, trivial⟩, ⟨by omega, fun j h hj => ?_⟩, by omega⟩
   by_cases e : j = i
   ·
    subst e; rw [Int.toNat_natCast, getD_lt h] at hc16; exact hc16
   ·
    exact hi.2 j h (by omega)
 ·
  try simp only [jcs] at hc9
  refine AWP.exit ?_
  refine jsr ?_
  refine jst hσ rfl rfl rfl rfl rfl ?_
  first | refine jle hσ rfl rfl rfl rfl rfl rfl rfl rfl rfl rfl rfl ?_ | refine jst hσ rfl rfl rfl rfl rfl ?_ | refine jvf hσ rfl rfl rfl rfl rfl ?_
  iterate 3 refine jst hσ rfl rfl rfl rfl rfl ?_
  refine jn ?_
  refine AWP.ret ?_
  refine ⟨.inl rfl, _, Ent.refl, _, rfl, ?_⟩
  rw [terms, all_of (fun j hj => hi.2 j hj (by omega)), Bool.true_and]
theorem below_le (k : Int) : 0 ≤ below k ∧ below k ≤ 2 := by unfold below; split; decide; split; decide; split <;> decide
theorem endL_neg {l : List Sm} {n : Int} (h : n ≤ 0) : endL l n = some 0 := by cases l <;> simp [endL, h]
theorem endL_nil {n : Int} (h : 0 < n) : endL [] n = none := by simp [endL]; omega
theorem endL_pos {l : List Sm} {n : Int} (h : 0 < n) {k : Nat} (hk : k < l.length) : endL (l.drop k) n = (endL (l.drop (k + 1)) (n + (below (l.getD k default).kind - 1))).map (· + 1) := by
  rw [List.drop_eq_getElem_cons hk, getD_lt hk]
  show (if n ≤ 0 then some 0 else _) = _
  rw [if_neg (by omega)]

theorem c152 {L : Nat} (h1 : 4096 ≤ L) (h2 : L ≤ 1073741824) {k : Int} : MC Tryz.prog L 110 [eI k] [] (Plain (eI (below k))) := by
 refine MC.alone ?_ rfl
 have hσ := SGok (nt := 9) h1 (Nat.le_trans h2 (by decide))
 refine MC.body hσ Tryz.func110 (by kernel_rfl) rfl rfl (Nat.le_of_ble_eq_true rfl) (fun hF => ?_)
 refine jsr ?_
 refine jst hσ rfl rfl rfl rfl rfl ?_
 refine jn ?_
 refine AWP.seq ?_
 refine jsr ?_
 refine jst hσ rfl rfl rfl rfl rfl ?_
 refine jn ?_
 refine AWP.block ?_
 refine AWP.seq ?_
 refine jsr ?_
 iterate 2 refine jst hσ rfl rfl rfl rfl rfl ?_
 refine jn ?_
 refine AWP.cond hσ rfl rfl (fun hc4 => ?_) (fun hc4 => ?_)
 ·
  try simp only [jcs] at hc4
  refine AWP.skip ?_
  refine AWP.cond hσ rfl rfl (fun hc4 => ?_) (fun hc4 => ?_)
  ·
   try simp only [jcs] at hc4
   refine jsr ?_
   refine jst hσ rfl rfl rfl rfl rfl ?_
   refine jn ?_
   refine AWP.ret ?_
   refine ⟨.inl rfl, _, Ent.refl, _, rfl, ?_⟩
   simp_all [below]
  ·
   try simp only [jcs] at hc4
   refine jsr ?_
   iterate 2 refine jst hσ rfl rfl rfl rfl rfl ?_
   refine jn ?_
   refine AWP.cond hσ rfl rfl (fun hc7 => ?_) (fun hc7 => ?_)
   ·
    try simp only [jcs] at hc7
    refine jsr ?_
    refine jst hσ rfl rfl rfl rfl rfl ?_
    refine jn ?_
    refine AWP.ret ?_
    refine ⟨.inl rfl, _, Ent.refl, _, rfl, ?_⟩
    simp_all [below]
   ·
    try simp only [jcs] at hc7
    refine AWP.skip ?_
    refine jsr ?_
    refine jst hσ rfl rfl rfl rfl rfl ?_
    refine jn ?_
    refine AWP.ret ?_
    refine ⟨.inl rfl, _, Ent.refl, _, rfl, ?_⟩
    simp_all [below]
 ·
  try simp only [jcs] at hc4
  refine AWP.region ?_
  iterate 2 refine jst hσ rfl rfl rfl rfl rfl ?_
  refine jn ?_
  refine AWP.cond hσ rfl rfl (fun hc4 => ?_) (fun hc4 => ?_)
  ·
   try simp only [jcs] at hc4
   refine jsr ?_
   refine jst hσ rfl rfl rfl rfl rfl ?_
   refine jn ?_
   refine AWP.ret ?_
   refine ⟨.inl rfl, _, Ent.refl, _, rfl, ?_⟩
   simp_all [below]
  ·
   try simp only [jcs] at hc4
   refine jsr ?_
   iterate 2 refine jst hσ rfl rfl rfl rfl rfl ?_
   refine jn ?_
   refine AWP.cond hσ rfl rfl (fun hc7 => ?_) (fun hc7 => ?_)
   ·
    try simp only [jcs] at hc7
    refine jsr ?_
    refine jst hσ rfl rfl rfl rfl rfl ?_
    refine jn ?_
    refine AWP.ret ?_
    refine ⟨.inl rfl, _, Ent.refl, _, rfl, ?_⟩
    simp_all [below]
   ·
    try simp only [jcs] at hc7
    refine AWP.skip ?_
    refine jsr ?_
    refine jst hσ rfl rfl rfl rfl rfl ?_
    refine jn ?_
    refine AWP.ret ?_
    refine ⟨.inl rfl, _, Ent.refl, _, rfl, ?_⟩
    simp_all [below]
theorem c179 {L : Nat} (h1 : 4096 ≤ L) (h2 : L ≤ 1073741824) {t : Tm} : MC Tryz.prog L 109 [ptr t.cells] [] (Plain (eB t.zero)) := by
 refine MC.alone ?_ rfl
 have hσ := SGok (nt := 16) h1 (Nat.le_trans h2 (by decide))
 refine MC.body hσ Tryz.func109 (by kernel_rfl) rfl rfl (Nat.le_of_ble_eq_true rfl) (fun hF => ?_)
 refine jsr ?_
 refine jst hσ rfl rfl rfl rfl rfl ?_
 refine jns ?_
 iterate 6 refine jst hσ rfl rfl rfl rfl rfl ?_
 refine AOps.gr 6 rfl rfl rfl (fun hx => AN.step hx rfl rfl rfl (Val.of hσ rfl rfl) rfl rfl ( AN.step hx rfl rfl rfl (Val.of hσ rfl rfl) rfl rfl ( AN.step hx rfl rfl rfl (Val.of hσ rfl rfl) rfl rfl ( AN.step hx rfl rfl rfl (Val.of hσ rfl rfl) rfl rfl ( AN.step hx rfl rfl rfl (Val.lenD hσ rfl rfl rfl rfl rfl rfl rfl rfl) rfl rfl ( AN.step hx rfl rfl rfl (Val.of hσ rfl rfl) rfl rfl ( AN.nil))))))) rfl rfl ?_
 first | refine AOps.step (Val.pickT hσ rfl rfl rfl rfl rfl) rfl rfl rfl ?_ | refine AOps.step (Val.pickF hσ rfl rfl rfl rfl rfl) rfl rfl rfl ?_ | refine AOps.step (Val.pickB hσ rfl rfl rfl rfl rfl) rfl rfl rfl ?_
 refine jst hσ rfl rfl rfl rfl rfl ?_
 refine jn ?_
 refine AWP.ret ?_
 refine ⟨.inl rfl, _, Ent.refl, _, rfl, ?_⟩
 rw [Bool.cond_false_right]; rfl
theorem c105 {L : Nat} (h1 : 4096 ≤ L) (h2 : L ≤ 1073741824) {body : List Sm} {k : Nat} (hk : k ≤ body.length) : MC Tryz.prog L 85 [.c (.d (sms body)), eI k] [] (Plain (eI (endR body k))) := by
 refine MC.alone ?_ rfl
 have hσ := SGok (nt := 24) h1 (Nat.le_trans h2 (by decide))
 refine MC.body hσ Tryz.func85 (by kernel_rfl) rfl rfl (Nat.le_of_ble_eq_true rfl) (fun hF => ?_)
 have hl : body.length ≤ L := by simpa [As.fact, A.fact, M.fact, D.fact, Ds.fact] using hF.1.1
 refine jsr ?_
 refine jst hσ rfl rfl rfl rfl rfl ?_
 refine jns ?_
 refine jst hσ rfl rfl rfl rfl rfl ?_
 refine jn ?_
 refine AWP.seq ?_
 refine AWP.block ?_
 refine AWP.loopP (X := Int × Nat) (fun x => ⟨[(0, .c (.d (sms body))), (1, eI (k + x.2)), (5, eI x.1)], []⟩) (fun x => k + x.2 ≤ body.length ∧ (endL (body.drop k) 1 = (endL (body.drop (k + x.2)) x.1).map (· + x.2)) ∧ 0 ≤ x.1 ∧ x.1 ≤ x.2 + 1) (fun x => body.length - (k + x.2)) (1, 0) (Ent.env ⟨rfl, by simp [numbered, lk_cons], rfl, trivial⟩) ?_ (fun x hi => ?_)
 ·
  exact ⟨hk, by simp, by decide, by decide⟩
 refine AWP.seq ?_
 refine jsr ?_
 iterate 2 refine jst hσ rfl rfl rfl rfl rfl ?_
 refine jn ?_
 refine AWP.cond hσ rfl rfl (fun hc7 => ?_) (fun hc7 => ?_)
 ·
  try simp only [jcs] at hc7
  refine AWP.skip ?_
  refine AWP.block ?_
  refine AWP.seq ?_
  refine jsr ?_
  iterate 2 refine jst hσ rfl rfl rfl rfl rfl ?_
  first | refine jle hσ rfl rfl rfl rfl rfl rfl rfl rfl rfl rfl rfl ?_ | refine jst hσ rfl rfl rfl rfl rfl ?_ | refine jvf hσ rfl rfl rfl rfl rfl ?_
  refine jst hσ rfl rfl rfl rfl rfl ?_
  refine jn ?_
  refine AWP.cond hσ rfl rfl (fun hc11 => ?_) (fun hc11 => ?_)
  ·
   try simp only [jcs] at hc11
   refine jsr ?_
   refine jst hσ rfl rfl rfl rfl rfl ?_
   refine jn ?_
   refine AWP.ret ?_
   refine ⟨.inl rfl, _, Ent.refl, _, rfl, ?_⟩
   have e : k + x.2 = body.length := by omega
   rw [endR, hi.2.1, List.drop_of_length_le (by omega), endL_nil hc7]; rfl
  ·
   try simp only [jcs] at hc11
   refine AWP.skip ?_
   refine jsr ?_
   iterate 3 refine jst hσ rfl rfl rfl rfl rfl ?_
   first | refine jix hσ rfl rfl rfl rfl rfl rfl rfl rfl rfl rfl rfl ?_ | refine jvf hσ rfl rfl rfl rfl rfl ?_
   iterate 2 refine jst hσ rfl rfl rfl rfl rfl ?_
   refine AOps.lone hσ rfl rfl rfl rfl (c152 h1 h2) (VAs.self rfl) rfl rfl rfl rfl rfl (B0 := 19000) rfl ?_
   have hb := below_le (body.getD ((k : Int) + x.2).toNat default).kind
   refine AOps.step (Val.fits64 hσ rfl rfl (by omega) (by omega)) rfl rfl rfl ?_
   first | refine jfi hσ rfl rfl rfl rfl rfl ?_ | refine jvf hσ rfl rfl rfl rfl rfl ?_
   refine jst hσ rfl rfl rfl rfl rfl ?_
   refine jn ?_
   refine AWP.region ?_
   refine jst hσ rfl rfl rfl rfl rfl ?_
   first | refine jfi hσ rfl rfl rfl rfl rfl ?_ | refine jvf hσ rfl rfl rfl rfl rfl ?_
   refine jst hσ rfl rfl rfl rfl rfl ?_
   refine jn ?_
   have hk2 : k + x.2 < body.length := by omega
   have e := endL_pos hc7 hk2
   rw [e, Option.map_map] at hi
   refine ⟨(x.1 + (below (body.getD (k + x.2) default).kind - 1), x.2 + 1), Ent.env ⟨rfl, ?_, rfl, trivial⟩, ⟨by show k + (x.2 + 1) ≤ _; omega, ?_, ?_, ?_⟩, by show body.length - (k + (x.2 + 1)) < _; omega⟩
   ·
    exact congrArg (fun z => some (eI z)) (by show (k : Int) + x.2 + 1 = k + (x.2 + 1 : Nat); omega)
   ·
    rw [hi.2.1]; exact congrArg (fun f => Option.map f _) (funext fun n => by show n + 1 + x.2 = n + (x.2 + 1); omega)
   ·
    show 0 ≤ x.1 + (below (body.getD (k + x.2) default).kind - 1); have := (below_le (body.getD (k + x.2) default).kind).1; omega
   ·
    show x.1 + (below (body.getD (k + x.2) default).kind - 1) ≤ (x.2 + 1 : Nat) + 1; have := (below_le (body.getD (k + x.2) default).kind).2; omega
 ·
  try simp only [jcs] at hc7
  refine AWP.exit ?_
  refine jsr ?_
  iterate 2 refine jst hσ rfl rfl rfl rfl rfl ?_
  refine jn ?_
  refine AWP.ret ?_
  refine ⟨.inl rfl, _, Ent.refl, _, rfl, ?_⟩
  rw [endR, hi.2.1, endL_neg hc7]; exact congrArg eI (by show (k : Int) + x.2 = k + (0 + x.2 : Nat); omega)
def sSum (s : Sm) : Bool := bif bif bif bif decide (s.kind = 2) then true else decide (s.kind = 4) then true else decide (s.kind = 6) then true else decide (s.kind = 7) then true else decide (s.kind = 8)
def sIdx (s : Sm) : Bool := bif decide (s.kind = 3) then true else decide (s.kind = 4)
def sNam (s : Sm) : Bool := bif decide (s.kind = 2) then true else decide (s.kind = 3)
def sB1 (s : Sm) : Bool := bif bif bif !(decide (0 ≤ s.kind) && decide (s.kind ≤ 8)) then true else !s.sum.term then true else !s.index.term then true else !terms s.facts 6
def sB2 (s : Sm) : Bool := bif bif bif !sSum s then !s.sum.zero else false then true else bif !sIdx s then !s.index.zero else false then true else bif !decide (s.kind = 8) then decide ((0 : Int) < s.facts.length) else false
def sB3 (s : Sm) : Bool := bif bif sNam s then !(decide (0 ≤ s.var) && decide (s.var ≤ 3)) else false then true else bif !sNam s then !decide (s.var = 0) else false
/-- The fields of an element are valid. -/
def stmtB (s : Sm) : Bool := bif sB1 s then false else bif sB2 s then false else bif sB3 s then false else bif decide (s.kind = 5) then (decide (0 ≤ s.event) && decide (s.event ≤ 3)) else decide (s.event = 0)
def bodyB (b : List Sm) : Bool := (decide ((1 : Int) ≤ b.length) && decide ((b.length : Int) ≤ 30)) && (b.all stmtB && decide (endR b 0 = b.length))
def progB (p : Pm) : Bool := terms p.pre 6 && (bodyB p.body && terms p.post 6)
def big (x : Int) : Bool := decide (-1000000000 ≤ x) && decide (x ≤ 1000000000)
def numsB (xs : List Int) (n : Int) : Bool := xs.all big && decide ((xs.length : Int) = n)
def stB (s : Sx) : Bool := numsB s.vars 4 && numsB s.cells 8
def dot : List Int → List Int → Int
  | x :: xs, y :: ys => x * y + dot xs ys
  | _, _ => 0
def evalT (t : Tm) (vars : List Int) : Int := t.c + dot t.xs vars
theorem c150 {L : Nat} (h1 : 4096 ≤ L) (h2 : L ≤ 1073741824) {s : Sm} : MC Tryz.prog L 84 [ptr s.cells] [] (Plain (eB (stmtB s))) := by
 refine MC.alone ?_ rfl
 have hσ := SGok (nt := 161) h1 (Nat.le_trans h2 (by decide))
 refine MC.body hσ Tryz.func84 (by kernel_rfl) rfl rfl (Nat.le_of_ble_eq_true rfl) (fun hF => ?_)
 refine jsr ?_
 refine jst hσ rfl rfl rfl rfl rfl ?_
 refine jns ?_
 iterate 6 refine jst hσ rfl rfl rfl rfl rfl ?_
 refine AOps.reset [(11, _), (2, _), (0, _)] [] ⟨rfl, rfl, rfl, trivial⟩ rfl ?_
 refine AOps.gr 5 rfl rfl rfl (fun hx => AN.step hx rfl rfl rfl (Val.of hσ rfl rfl) rfl rfl ( AN.step hx rfl rfl rfl (Val.of hσ rfl rfl) rfl rfl ( AN.step hx rfl rfl rfl (Val.of hσ rfl rfl) rfl rfl ( AN.step hx rfl rfl rfl (Val.of hσ rfl rfl) rfl rfl ( AN.step hx rfl rfl rfl (Val.of hσ rfl rfl) rfl rfl ( AN.nil)))))) rfl rfl ?_
 first | refine AOps.step (Val.pickF hσ rfl rfl rfl rfl rfl) rfl rfl rfl ?_ | refine AOps.step (Val.pickB hσ rfl rfl rfl rfl rfl) rfl rfl rfl ?_ | refine AOps.step (Val.pickT hσ rfl rfl rfl rfl rfl) rfl rfl rfl ?_
 refine jst hσ rfl rfl rfl rfl rfl ?_
 refine AOps.reset [(18, _), (2, _), (0, _)] [] ⟨rfl, rfl, rfl, trivial⟩ rfl ?_
 refine AOps.gr 5 rfl rfl rfl (fun hx => AN.step hx rfl rfl rfl (Val.of hσ rfl rfl) rfl rfl ( AN.step hx rfl rfl rfl (Val.of hσ rfl rfl) rfl rfl ( AN.step hx rfl rfl rfl (Val.of hσ rfl rfl) rfl rfl ( AN.step hx rfl rfl rfl (Val.of hσ rfl rfl) rfl rfl ( AN.step hx rfl rfl rfl (Val.of hσ rfl rfl) rfl rfl ( AN.nil)))))) rfl rfl ?_
 first | refine AOps.step (Val.pickF hσ rfl rfl rfl rfl rfl) rfl rfl rfl ?_ | refine AOps.step (Val.pickB hσ rfl rfl rfl rfl rfl) rfl rfl rfl ?_ | refine AOps.step (Val.pickT hσ rfl rfl rfl rfl rfl) rfl rfl rfl ?_
 refine jst hσ rfl rfl rfl rfl rfl ?_
 refine AOps.reset [(25, _), (2, _), (0, _)] [] ⟨rfl, rfl, rfl, trivial⟩ rfl ?_
 refine AOps.gr 5 rfl rfl rfl (fun hx => AN.step hx rfl rfl rfl (Val.of hσ rfl rfl) rfl rfl ( AN.step hx rfl rfl rfl (Val.of hσ rfl rfl) rfl rfl ( AN.step hx rfl rfl rfl (Val.of hσ rfl rfl) rfl rfl ( AN.step hx rfl rfl rfl (Val.of hσ rfl rfl) rfl rfl ( AN.step hx rfl rfl rfl (Val.of hσ rfl rfl) rfl rfl ( AN.nil)))))) rfl rfl ?_
 first | refine AOps.step (Val.pickF hσ rfl rfl rfl rfl rfl) rfl rfl rfl ?_ | refine AOps.step (Val.pickB hσ rfl rfl rfl rfl rfl) rfl rfl rfl ?_ | refine AOps.step (Val.pickT hσ rfl rfl rfl rfl rfl) rfl rfl rfl ?_
 refine jst hσ rfl rfl rfl rfl rfl ?_
 refine AOps.reset [(32, _), (2, _), (0, _)] [] ⟨rfl, rfl, rfl, trivial⟩ rfl ?_
 refine AOps.gr 5 rfl rfl rfl (fun hx => AN.step hx rfl rfl rfl (Val.of hσ rfl rfl) rfl rfl ( AN.step hx rfl rfl rfl (Val.of hσ rfl rfl) rfl rfl ( AN.step hx rfl rfl rfl (Val.of hσ rfl rfl) rfl rfl ( AN.step hx rfl rfl rfl (Val.of hσ rfl rfl) rfl rfl ( AN.step hx rfl rfl rfl (Val.of hσ rfl rfl) rfl rfl ( AN.nil)))))) rfl rfl ?_
 first | refine AOps.step (Val.pickF hσ rfl rfl rfl rfl rfl) rfl rfl rfl ?_ | refine AOps.step (Val.pickB hσ rfl rfl rfl rfl rfl) rfl rfl rfl ?_ | refine AOps.step (Val.pickT hσ rfl rfl rfl rfl rfl) rfl rfl rfl ?_
 refine jst hσ rfl rfl rfl rfl rfl ?_
 refine jf [3, 2, 0] rfl ?_
 refine jns ?_
 iterate 6 refine jst hσ rfl rfl rfl rfl rfl ?_
 refine AOps.reset [(44, _), (3, _), (2, _), (0, _)] [] ⟨rfl, rfl, rfl, rfl, trivial⟩ rfl ?_
 refine AOps.gr 5 rfl rfl rfl (fun hx => AN.step hx rfl rfl rfl (Val.of hσ rfl rfl) rfl rfl ( AN.step hx rfl rfl rfl (Val.of hσ rfl rfl) rfl rfl ( AN.step hx rfl rfl rfl (Val.of hσ rfl rfl) rfl rfl ( AN.step hx rfl rfl rfl (Val.of hσ rfl rfl) rfl rfl ( AN.step hx rfl rfl rfl (Val.of hσ rfl rfl) rfl rfl ( AN.nil)))))) rfl rfl ?_
 first | refine AOps.step (Val.pickF hσ rfl rfl rfl rfl rfl) rfl rfl rfl ?_ | refine AOps.step (Val.pickB hσ rfl rfl rfl rfl rfl) rfl rfl rfl ?_ | refine AOps.step (Val.pickT hσ rfl rfl rfl rfl rfl) rfl rfl rfl ?_
 refine jst hσ rfl rfl rfl rfl rfl ?_
 refine jf [4, 3, 2, 0] rfl ?_
 refine jns ?_
 iterate 6 refine jst hσ rfl rfl rfl rfl rfl ?_
 refine AOps.reset [(56, _), (4, _), (3, _), (2, _), (0, _)] [] ⟨rfl, rfl, rfl, rfl, rfl, trivial⟩ rfl ?_
 refine AOps.gr 5 rfl rfl rfl (fun hx => AN.step hx rfl rfl rfl (Val.of hσ rfl rfl) rfl rfl ( AN.step hx rfl rfl rfl (Val.of hσ rfl rfl) rfl rfl ( AN.step hx rfl rfl rfl (Val.of hσ rfl rfl) rfl rfl ( AN.step hx rfl rfl rfl (Val.of hσ rfl rfl) rfl rfl ( AN.step hx rfl rfl rfl (Val.of hσ rfl rfl) rfl rfl ( AN.nil)))))) rfl rfl ?_
 first | refine AOps.step (Val.pickF hσ rfl rfl rfl rfl rfl) rfl rfl rfl ?_ | refine AOps.step (Val.pickB hσ rfl rfl rfl rfl rfl) rfl rfl rfl ?_ | refine AOps.step (Val.pickT hσ rfl rfl rfl rfl rfl) rfl rfl rfl ?_
 refine jst hσ rfl rfl rfl rfl rfl ?_
 refine jf [5, 4, 3, 2, 0] rfl ?_
 refine jn ?_
 refine AWP.seq ?_
 refine jsr ?_
 iterate 4 refine jst hσ rfl rfl rfl rfl rfl ?_
 refine AOps.reset [(66, _), (5, _), (4, _), (3, _), (2, _), (0, _)] [] ⟨rfl, rfl, rfl, rfl, rfl, rfl, trivial⟩ rfl ?_
 refine AOps.lone hσ rfl rfl rfl rfl (c84 h1 h2) (VAs.self rfl) rfl rfl rfl rfl rfl (B0 := 68000) rfl ?_
 iterate 2 refine jst hσ rfl rfl rfl rfl rfl ?_
 refine AOps.reset [(69, _), (5, _), (4, _), (3, _), (2, _), (0, _)] [] ⟨rfl, rfl, rfl, rfl, rfl, rfl, trivial⟩ rfl ?_
 refine AOps.gr 5 rfl rfl rfl (fun hx => AN.step hx rfl rfl rfl (Val.of hσ rfl rfl) rfl rfl ( AN.step hx rfl rfl rfl (Val.of hσ rfl rfl) rfl rfl ( AN.step hx rfl rfl rfl (Val.of hσ rfl rfl) rfl rfl ( AN.lone hσ hx rfl rfl rfl rfl (c149 (t := s.sum) h1 h2) (.cons (.c (.sub rfl)) .nil) rfl rfl rfl rfl rfl rfl rfl (B0 := 74000) rfl ( AN.step hx rfl rfl rfl (Val.of hσ rfl rfl) rfl rfl ( AN.nil)))))) rfl rfl ?_
 first | refine AOps.step (Val.pickF hσ rfl rfl rfl rfl rfl) rfl rfl rfl ?_ | refine AOps.step (Val.pickB hσ rfl rfl rfl rfl rfl) rfl rfl rfl ?_ | refine AOps.step (Val.pickT hσ rfl rfl rfl rfl rfl) rfl rfl rfl ?_
 refine jst hσ rfl rfl rfl rfl rfl ?_
 refine AOps.reset [(76, _), (5, _), (4, _), (3, _), (2, _), (0, _)] [] ⟨rfl, rfl, rfl, rfl, rfl, rfl, trivial⟩ rfl ?_
 refine AOps.gr 5 rfl rfl rfl (fun hx => AN.step hx rfl rfl rfl (Val.of hσ rfl rfl) rfl rfl ( AN.step hx rfl rfl rfl (Val.of hσ rfl rfl) rfl rfl ( AN.step hx rfl rfl rfl (Val.of hσ rfl rfl) rfl rfl ( AN.lone hσ hx rfl rfl rfl rfl (c149 (t := s.index) h1 h2) (.cons (.c (.sub rfl)) .nil) rfl rfl rfl rfl rfl rfl rfl (B0 := 81000) rfl ( AN.step hx rfl rfl rfl (Val.of hσ rfl rfl) rfl rfl ( AN.nil)))))) rfl rfl ?_
 first | refine AOps.step (Val.pickF hσ rfl rfl rfl rfl rfl) rfl rfl rfl ?_ | refine AOps.step (Val.pickB hσ rfl rfl rfl rfl rfl) rfl rfl rfl ?_ | refine AOps.step (Val.pickT hσ rfl rfl rfl rfl rfl) rfl rfl rfl ?_
 refine jst hσ rfl rfl rfl rfl rfl ?_
 refine AOps.reset [(83, _), (5, _), (4, _), (3, _), (2, _), (0, _)] [] ⟨rfl, rfl, rfl, rfl, rfl, rfl, trivial⟩ rfl ?_
 refine AOps.gr 6 rfl rfl rfl (fun hx => AN.step hx rfl rfl rfl (Val.of hσ rfl rfl) rfl rfl ( AN.step hx rfl rfl rfl (Val.of hσ rfl rfl) rfl rfl ( AN.step hx rfl rfl rfl (Val.of hσ rfl rfl) rfl rfl ( AN.step hx rfl rfl rfl (Val.of hσ rfl rfl) rfl rfl ( AN.lone hσ hx rfl rfl rfl rfl (c101 h1 h2) (VAs.self rfl) rfl rfl rfl rfl rfl rfl rfl (B0 := 89000) rfl ( AN.step hx rfl rfl rfl (Val.of hσ rfl rfl) rfl rfl ( AN.nil))))))) rfl rfl ?_
 first | refine AOps.step (Val.pickF hσ rfl rfl rfl rfl rfl) rfl rfl rfl ?_ | refine AOps.step (Val.pickB hσ rfl rfl rfl rfl rfl) rfl rfl rfl ?_ | refine AOps.step (Val.pickT hσ rfl rfl rfl rfl rfl) rfl rfl rfl ?_
 refine jf [90, 5, 4, 3, 2, 0] rfl ?_
 refine jn ?_
 refine AWP.cond hσ rfl rfl (fun hc90 => ?_) (fun hc90 => ?_)
 ·
  skip
  refine jsr ?_
  refine jst hσ rfl rfl rfl rfl rfl ?_
  refine jn ?_
  refine AWP.ret ?_
  refine ⟨.inl rfl, _, Ent.refl, _, rfl, ?_⟩
  rw [stmtB, show sB1 s = true from hc90]; rfl
 ·
  skip
  refine AWP.skip ?_
  refine AWP.seq ?_
  refine jsr ?_
  iterate 3 refine jst hσ rfl rfl rfl rfl rfl ?_
  refine AOps.reset [(93, _), (5, _), (4, _), (2, _), (0, _)] [] ⟨rfl, rfl, rfl, rfl, rfl, trivial⟩ rfl ?_
  refine AOps.gr 5 rfl rfl rfl (fun hx => AN.step hx rfl rfl rfl (Val.of hσ rfl rfl) rfl rfl ( AN.step hx rfl rfl rfl (Val.of hσ rfl rfl) rfl rfl ( AN.step hx rfl rfl rfl (Val.of hσ rfl rfl) rfl rfl ( AN.lone hσ hx rfl rfl rfl rfl (c179 (t := s.sum) h1 h2) (.cons (.c (.sub rfl)) .nil) rfl rfl rfl rfl rfl rfl rfl (B0 := 98000) rfl ( AN.step hx rfl rfl rfl (Val.of hσ rfl rfl) rfl rfl ( AN.nil)))))) rfl rfl ?_
  first | refine AOps.step (Val.pickT hσ rfl rfl rfl rfl rfl) rfl rfl rfl ?_ | refine AOps.step (Val.pickF hσ rfl rfl rfl rfl rfl) rfl rfl rfl ?_ | refine AOps.step (Val.pickB hσ rfl rfl rfl rfl rfl) rfl rfl rfl ?_
  refine jst hσ rfl rfl rfl rfl rfl ?_
  refine AOps.reset [(100, _), (5, _), (4, _), (2, _), (0, _)] [] ⟨rfl, rfl, rfl, rfl, rfl, trivial⟩ rfl ?_
  refine AOps.gr 9 rfl rfl rfl (fun hx => AN.step hx rfl rfl rfl (Val.of hσ rfl rfl) rfl rfl ( AN.step hx rfl rfl rfl (Val.of hσ rfl rfl) rfl rfl ( AN.step hx rfl rfl rfl (Val.of hσ rfl rfl) rfl rfl ( AN.grp 5 rfl rfl rfl rfl (fun hx' => AN.step hx' rfl rfl rfl (Val.of hσ rfl rfl) rfl rfl ( AN.step hx' rfl rfl rfl (Val.of hσ rfl rfl) rfl rfl ( AN.step hx' rfl rfl rfl (Val.of hσ rfl rfl) rfl rfl ( AN.lone hσ hx' rfl rfl rfl rfl (c179 (t := s.index) h1 h2) (.cons (.c (.sub rfl)) .nil) rfl rfl rfl rfl rfl rfl rfl (B0 := 108000) rfl ( AN.step hx' rfl rfl rfl (Val.of hσ rfl rfl) rfl rfl ( AN.nil)))))) rfl rfl ( AN.step hx rfl rfl rfl (Val.pickT hσ rfl rfl rfl rfl rfl) rfl rfl ( AN.nil)))))) rfl rfl ?_
  first | refine AOps.step (Val.pickF hσ rfl rfl rfl rfl rfl) rfl rfl rfl ?_ | refine AOps.step (Val.pickB hσ rfl rfl rfl rfl rfl) rfl rfl rfl ?_ | refine AOps.step (Val.pickT hσ rfl rfl rfl rfl rfl) rfl rfl rfl ?_
  refine jst hσ rfl rfl rfl rfl rfl ?_
  refine AOps.reset [(111, _), (5, _), (2, _), (0, _)] [] ⟨rfl, rfl, rfl, rfl, trivial⟩ rfl ?_
  refine AOps.gr 13 rfl rfl rfl (fun hx => AN.step hx rfl rfl rfl (Val.of hσ rfl rfl) rfl rfl ( AN.step hx rfl rfl rfl (Val.of hσ rfl rfl) rfl rfl ( AN.step hx rfl rfl rfl (Val.of hσ rfl rfl) rfl rfl ( AN.step hx rfl rfl rfl (Val.of hσ rfl rfl) rfl rfl ( AN.step hx rfl rfl rfl (Val.of hσ rfl rfl) rfl rfl ( AN.step hx rfl rfl rfl (Val.of hσ rfl rfl) rfl rfl ( AN.grp 6 rfl rfl rfl rfl (fun hx' => AN.step hx' rfl rfl rfl (Val.of hσ rfl rfl) rfl rfl ( AN.step hx' rfl rfl rfl (Val.of hσ rfl rfl) rfl rfl ( AN.step hx' rfl rfl rfl (Val.of hσ rfl rfl) rfl rfl ( AN.step hx' rfl rfl rfl (Val.of hσ rfl rfl) rfl rfl ( AN.step hx' rfl rfl rfl (Val.lenD hσ rfl rfl rfl rfl rfl rfl rfl rfl) rfl rfl ( AN.step hx' rfl rfl rfl (Val.of hσ rfl rfl) rfl rfl ( AN.nil))))))) rfl rfl ( AN.step hx rfl rfl rfl (Val.pickT hσ rfl rfl rfl rfl rfl) rfl rfl ( AN.nil))))))))) rfl rfl ?_
  first | refine AOps.step (Val.pickF hσ rfl rfl rfl rfl rfl) rfl rfl rfl ?_ | refine AOps.step (Val.pickB hσ rfl rfl rfl rfl rfl) rfl rfl rfl ?_ | refine AOps.step (Val.pickT hσ rfl rfl rfl rfl rfl) rfl rfl rfl ?_
  refine jf [125, 5, 2, 0] rfl ?_
  refine jn ?_
  refine AWP.cond hσ rfl rfl (fun hc125 => ?_) (fun hc125 => ?_)
  ·
   skip
   refine jsr ?_
   refine jst hσ rfl rfl rfl rfl rfl ?_
   refine jn ?_
   refine AWP.ret ?_
   refine ⟨.inl rfl, _, Ent.refl, _, rfl, ?_⟩
   rw [stmtB, show sB1 s = false from hc90, show sB2 s = true from hc125]; rfl
  ·
   skip
   refine AWP.skip ?_
   refine AWP.seq ?_
   refine jsr ?_
   iterate 2 refine jst hσ rfl rfl rfl rfl rfl ?_
   refine AOps.reset [(127, _), (5, _), (2, _), (0, _)] [] ⟨rfl, rfl, rfl, rfl, trivial⟩ rfl ?_
   refine AOps.gr 6 rfl rfl rfl (fun hx => AN.step hx rfl rfl rfl (Val.of hσ rfl rfl) rfl rfl ( AN.step hx rfl rfl rfl (Val.of hσ rfl rfl) rfl rfl ( AN.step hx rfl rfl rfl (Val.of hσ rfl rfl) rfl rfl ( AN.step hx rfl rfl rfl (Val.of hσ rfl rfl) rfl rfl ( AN.lone hσ hx rfl rfl rfl rfl (c84 h1 h2) (VAs.self rfl) rfl rfl rfl rfl rfl rfl rfl (B0 := 133000) rfl ( AN.step hx rfl rfl rfl (Val.of hσ rfl rfl) rfl rfl ( AN.nil))))))) rfl rfl ?_
   first | refine AOps.step (Val.pickT hσ rfl rfl rfl rfl rfl) rfl rfl rfl ?_ | refine AOps.step (Val.pickF hσ rfl rfl rfl rfl rfl) rfl rfl rfl ?_ | refine AOps.step (Val.pickB hσ rfl rfl rfl rfl rfl) rfl rfl rfl ?_
   refine jst hσ rfl rfl rfl rfl rfl ?_
   refine AOps.reset [(135, _), (5, _), (2, _), (0, _)] [] ⟨rfl, rfl, rfl, rfl, trivial⟩ rfl ?_
   refine AOps.gr 9 rfl rfl rfl (fun hx => AN.step hx rfl rfl rfl (Val.of hσ rfl rfl) rfl rfl ( AN.step hx rfl rfl rfl (Val.of hσ rfl rfl) rfl rfl ( AN.step hx rfl rfl rfl (Val.of hσ rfl rfl) rfl rfl ( AN.grp 5 rfl rfl rfl rfl (fun hx' => AN.step hx' rfl rfl rfl (Val.of hσ rfl rfl) rfl rfl ( AN.step hx' rfl rfl rfl (Val.of hσ rfl rfl) rfl rfl ( AN.step hx' rfl rfl rfl (Val.of hσ rfl rfl) rfl rfl ( AN.step hx' rfl rfl rfl (Val.of hσ rfl rfl) rfl rfl ( AN.step hx' rfl rfl rfl (Val.of hσ rfl rfl) rfl rfl ( AN.nil)))))) rfl rfl ( AN.step hx rfl rfl rfl (Val.pickT hσ rfl rfl rfl rfl rfl) rfl rfl ( AN.nil)))))) rfl rfl ?_
   first | refine AOps.step (Val.pickF hσ rfl rfl rfl rfl rfl) rfl rfl rfl ?_ | refine AOps.step (Val.pickB hσ rfl rfl rfl rfl rfl) rfl rfl rfl ?_ | refine AOps.step (Val.pickT hσ rfl rfl rfl rfl rfl) rfl rfl rfl ?_
   refine jf [145, 2, 0] rfl ?_
   refine jn ?_
   refine AWP.cond hσ rfl rfl (fun hc145 => ?_) (fun hc145 => ?_)
   ·
    skip
    refine jsr ?_
    refine jst hσ rfl rfl rfl rfl rfl ?_
    refine jn ?_
    refine AWP.ret ?_
    refine ⟨.inl rfl, _, Ent.refl, _, rfl, ?_⟩
    rw [stmtB, show sB1 s = false from hc90, show sB2 s = false from hc125, show sB3 s = true from hc145]; rfl
   ·
    skip
    refine AWP.skip ?_
    refine AWP.seq ?_
    refine jsr ?_
    iterate 5 refine jst hσ rfl rfl rfl rfl rfl ?_
    refine jf [150, 2, 0] rfl ?_
    refine jn ?_
    refine AWP.cond hσ rfl rfl (fun hc150 => ?_) (fun hc150 => ?_)
    ·
     skip
     refine jsr ?_
     iterate 4 refine jst hσ rfl rfl rfl rfl rfl ?_
     refine AOps.reset [(154, _), (2, _), (0, _)] [] ⟨rfl, rfl, rfl, trivial⟩ rfl ?_
     refine AOps.lone hσ rfl rfl rfl rfl (c84 h1 h2) (VAs.self rfl) rfl rfl rfl rfl rfl (B0 := 156000) rfl ?_
     refine jst hσ rfl rfl rfl rfl rfl ?_
     refine jf [2, 0] rfl ?_
     refine jn ?_
     refine AWP.ret ?_
     refine ⟨.inl rfl, _, Ent.refl, _, rfl, ?_⟩
     rw [stmtB, show sB1 s = false from hc90, show sB2 s = false from hc125, show sB3 s = false from hc145, hc150]; rfl
    ·
     skip
     refine AWP.skip ?_
     refine jsr ?_
     iterate 6 refine jst hσ rfl rfl rfl rfl rfl ?_
     refine jf [2, 0] rfl ?_
     refine jn ?_
     refine AWP.ret ?_
     refine ⟨.inl rfl, _, Ent.refl, _, rfl, ?_⟩
     rw [stmtB, show sB1 s = false from hc90, show sB2 s = false from hc125, show sB3 s = false from hc145, hc150]; rfl
theorem c102 {L : Nat} (h1 : 4096 ≤ L) (h2 : L ≤ 1073741824) {b : List Sm} : MC Tryz.prog L 50 [.c (.d (sms b))] [] (Plain (eB (bodyB b))) := by
 refine MC.alone ?_ rfl
 have hσ := SGok (nt := 24) h1 (Nat.le_trans h2 (by decide))
 refine MC.body hσ Tryz.func50 (by kernel_rfl) rfl rfl (Nat.le_of_ble_eq_true rfl) (fun hF => ?_)
 have hl : b.length ≤ L := by simpa [As.fact, A.fact, M.fact, D.fact, Ds.fact] using hF.1.1
 refine jsr ?_
 refine jst hσ rfl rfl rfl rfl rfl ?_
 refine jn ?_
 refine AWP.seq ?_
 refine jsr ?_
 refine jst hσ rfl rfl rfl rfl rfl ?_
 first | refine jle hσ rfl rfl rfl rfl rfl rfl rfl rfl rfl rfl rfl ?_ | refine jst hσ rfl rfl rfl rfl rfl ?_ | refine jvf hσ rfl rfl rfl rfl rfl ?_
 refine AOps.lone hσ rfl rfl rfl rfl (c84 h1 h2) (VAs.self rfl) rfl rfl rfl rfl rfl (B0 := 7000) rfl ?_
 refine jst hσ rfl rfl rfl rfl rfl ?_
 refine jn ?_
 refine AWP.cond hσ rfl rfl (fun hc7 => ?_) (fun hc7 => ?_)
 ·
  try simp only [jcs] at hc7
  refine jsr ?_
  refine jst hσ rfl rfl rfl rfl rfl ?_
  refine jn ?_
  refine AWP.ret ?_
  refine ⟨.inl rfl, _, Ent.refl, _, rfl, ?_⟩
  rw [bodyB, show (decide ((1 : Int) ≤ b.length) && decide ((b.length : Int) ≤ 30)) = false from hc7, Bool.false_and]
 ·
  try simp only [jcs] at hc7
  refine AWP.skip ?_
  refine AWP.seq ?_
  refine jsr ?_
  refine jst hσ rfl rfl rfl rfl rfl ?_
  refine jn ?_
  refine AWP.block ?_
  refine AWP.loopP (X := Nat) (fun i => ⟨[(0, .c (.d (sms b))), (3, eI i)], []⟩) (fun i => i ≤ b.length ∧ ∀ j (h : j < b.length), j < i → stmtB b[j] = true) (fun i => b.length - i) 0 (Ent.env ⟨rfl, rfl, trivial⟩) ?_ (fun i hi => ?_)
  ·
   exact ⟨Nat.zero_le _, fun j h hj => absurd hj (Nat.not_lt_zero j)⟩
  refine AWP.seq ?_
  refine jsr ?_
  iterate 2 refine jst hσ rfl rfl rfl rfl rfl ?_
  first | refine jle hσ rfl rfl rfl rfl rfl rfl rfl rfl rfl rfl rfl ?_ | refine jst hσ rfl rfl rfl rfl rfl ?_ | refine jvf hσ rfl rfl rfl rfl rfl ?_
  refine jst hσ rfl rfl rfl rfl rfl ?_
  refine jn ?_
  refine AWP.cond hσ rfl rfl (fun hc11 => ?_) (fun hc11 => ?_)
  ·
   try simp only [jcs] at hc11
   refine AWP.skip ?_
   refine AWP.seq ?_
   refine AWP.block ?_
   refine jsr ?_
   iterate 2 refine jst hσ rfl rfl rfl rfl rfl ?_
   first | refine jix hσ rfl rfl rfl rfl rfl rfl rfl rfl rfl rfl rfl ?_ | refine jvf hσ rfl rfl rfl rfl rfl ?_
   refine AOps.lone hσ rfl rfl rfl rfl (c150 h1 h2) (VAs.self rfl) rfl rfl rfl rfl rfl (B0 := 18000) rfl ?_
   refine jst hσ rfl rfl rfl rfl rfl ?_
   refine jn ?_
   refine AWP.cond hσ rfl rfl (fun hc18 => ?_) (fun hc18 => ?_)
   ·
    try simp only [jcs] at hc18
    refine jsr ?_
    refine jst hσ rfl rfl rfl rfl rfl ?_
    refine jn ?_
    refine AWP.ret ?_
    refine ⟨.inl rfl, _, Ent.refl, _, rfl, ?_⟩
    rw [Int.toNat_natCast, getD_lt (by omega)] at hc18
    rw [bodyB, all_not i (by omega) hc18, Bool.false_and, Bool.and_false]
   ·
    try simp only [jcs] at hc18
    refine AWP.skip ?_
    refine AWP.region ?_
    refine jst hσ rfl rfl rfl rfl rfl ?_
    first | refine jfi hσ rfl rfl rfl rfl rfl ?_ | refine jvf hσ rfl rfl rfl rfl rfl ?_
    refine jst hσ rfl rfl rfl rfl rfl ?_
    refine jn ?_
    refine ⟨i + 1, Ent.env ⟨rfl, rfl, trivial⟩, ⟨by omega, fun j h hj => ?_⟩, by omega⟩
    by_cases e : j = i
    ·
     subst e; rw [Int.toNat_natCast, getD_lt h] at hc18; exact hc18
    ·
     exact hi.2 j h (by omega)
  ·
   try simp only [jcs] at hc11
   refine AWP.exit ?_
   refine jsr ?_
   refine jst hσ rfl rfl rfl rfl rfl ?_
   refine AOps.lone hσ rfl rfl rfl rfl (c105 (k := 0) h1 h2 (Nat.zero_le _)) (VAs.self rfl) rfl rfl rfl rfl rfl (B0 := 21000) rfl ?_
   refine jst hσ rfl rfl rfl rfl rfl ?_
   first | refine jle hσ rfl rfl rfl rfl rfl rfl rfl rfl rfl rfl rfl ?_ | refine jst hσ rfl rfl rfl rfl rfl ?_ | refine jvf hσ rfl rfl rfl rfl rfl ?_
   iterate 2 refine jst hσ rfl rfl rfl rfl rfl ?_
   refine jn ?_
   refine AWP.ret ?_
   refine ⟨.inl rfl, _, Ent.refl, _, rfl, ?_⟩
   rw [bodyB, show (decide ((1 : Int) ≤ b.length) && decide ((b.length : Int) ≤ 30)) = true from hc7, all_of (fun j hj => hi.2 j hj (by omega)), Bool.true_and, Bool.true_and]
theorem c55 {L : Nat} (h1 : 4096 ≤ L) (h2 : L ≤ 1073741824) {p : Pm} : MC Tryz.prog L 20 [ptr p.data] [] (Plain (eB (progB p))) := by
 refine MC.alone ?_ rfl
 have hσ := SGok (nt := 22) h1 (Nat.le_trans h2 (by decide))
 refine MC.body hσ Tryz.func20 (by kernel_rfl) rfl rfl (Nat.le_of_ble_eq_true rfl) (fun hF => ?_)
 refine jsr ?_
 refine jst hσ rfl rfl rfl rfl rfl ?_
 refine jns ?_
 iterate 4 refine jst hσ rfl rfl rfl rfl rfl ?_
 refine AOps.reset [(6, _), (2, _), (0, _)] [] ⟨rfl, rfl, rfl, trivial⟩ rfl ?_
 refine AOps.lone hσ rfl rfl rfl rfl (c101 h1 h2) (VAs.self rfl) rfl rfl rfl rfl rfl (B0 := 8000) rfl ?_
 refine jst hσ rfl rfl rfl rfl rfl ?_
 refine AOps.reset [(8, _), (2, _), (0, _)] [] ⟨rfl, rfl, rfl, trivial⟩ rfl ?_
 refine AOps.gr 5 rfl rfl rfl (fun hx => AN.step hx rfl rfl rfl (Val.of hσ rfl rfl) rfl rfl ( AN.step hx rfl rfl rfl (Val.of hσ rfl rfl) rfl rfl ( AN.step hx rfl rfl rfl (Val.of hσ rfl rfl) rfl rfl ( AN.step hx rfl rfl rfl (Val.of hσ rfl rfl) rfl rfl ( AN.lone hσ hx rfl rfl rfl rfl (c102 h1 h2) (VAs.self rfl) rfl rfl rfl rfl rfl rfl rfl (B0 := 14000) rfl ( AN.nil)))))) rfl rfl ?_
 first | refine AOps.step (Val.pickT hσ rfl rfl rfl rfl rfl) rfl rfl rfl ?_ | refine AOps.step (Val.pickF hσ rfl rfl rfl rfl rfl) rfl rfl rfl ?_ | refine AOps.step (Val.pickB hσ rfl rfl rfl rfl rfl) rfl rfl rfl ?_
 refine jst hσ rfl rfl rfl rfl rfl ?_
 refine AOps.reset [(15, _), (2, _), (0, _)] [] ⟨rfl, rfl, rfl, trivial⟩ rfl ?_
 refine AOps.gr 5 rfl rfl rfl (fun hx => AN.step hx rfl rfl rfl (Val.of hσ rfl rfl) rfl rfl ( AN.step hx rfl rfl rfl (Val.of hσ rfl rfl) rfl rfl ( AN.step hx rfl rfl rfl (Val.of hσ rfl rfl) rfl rfl ( AN.step hx rfl rfl rfl (Val.of hσ rfl rfl) rfl rfl ( AN.lone hσ hx rfl rfl rfl rfl (c101 h1 h2) (VAs.self rfl) rfl rfl rfl rfl rfl rfl rfl (B0 := 21000) rfl ( AN.nil)))))) rfl rfl ?_
 first | refine AOps.step (Val.pickT hσ rfl rfl rfl rfl rfl) rfl rfl rfl ?_ | refine AOps.step (Val.pickF hσ rfl rfl rfl rfl rfl) rfl rfl rfl ?_ | refine AOps.step (Val.pickB hσ rfl rfl rfl rfl rfl) rfl rfl rfl ?_
 refine jst hσ rfl rfl rfl rfl rfl ?_
 refine jf [2] rfl ?_
 refine jn ?_
 refine AWP.ret ?_
 refine ⟨.inl rfl, _, Ent.refl, _, rfl, ?_⟩
 rw [Bool.cond_false_right, Bool.cond_false_right, Bool.and_assoc]; rfl
end Go.Al
namespace Go.Al
open Go.Proofs
set_option linter.unusedVariables false
set_option linter.unusedSimpArgs false
set_option maxRecDepth 10000
abbrev aTm' (t : Tm) : A := .agg (t.cells.map .d)
def inB (lo hi x : Int) : Bool := decide (lo ≤ x) && decide (x ≤ hi)

theorem c111 {L : Nat} (h1 : 4096 ≤ L) (h2 : L ≤ 1073741824) {x lo hi : Int} : MC Tryz.prog L 100 [eI x, eI lo, eI hi] [] (Plain (eB (inB lo hi x))) := by
 refine MC.alone ?_ rfl
 have hσ := SGok (nt := 15) h1 (Nat.le_trans h2 (by decide))
 refine MC.body hσ Tryz.func100 (by kernel_rfl) rfl rfl (Nat.le_of_ble_eq_true rfl) (fun hF => ?_)
 refine jsr ?_
 refine jst hσ rfl rfl rfl rfl rfl ?_
 refine jns ?_
 iterate 4 refine jst hσ rfl rfl rfl rfl rfl ?_
 refine AOps.gr 3 rfl rfl rfl (fun hx => AN.step hx rfl rfl rfl (Val.of hσ rfl rfl) rfl rfl ( AN.step hx rfl rfl rfl (Val.of hσ rfl rfl) rfl rfl ( AN.step hx rfl rfl rfl (Val.of hσ rfl rfl) rfl rfl ( AN.nil)))) rfl rfl ?_
 first | refine AOps.step (Val.pickT hσ rfl rfl rfl rfl rfl) rfl rfl rfl ?_ | refine AOps.step (Val.pickF hσ rfl rfl rfl rfl rfl) rfl rfl rfl ?_ | refine AOps.step (Val.pickB hσ rfl rfl rfl rfl rfl) rfl rfl rfl ?_
 refine jst hσ rfl rfl rfl rfl rfl ?_
 refine jn ?_
 refine AWP.ret ?_
 refine ⟨.inl rfl, _, Ent.refl, _, rfl, ?_⟩
 rw [Bool.cond_false_right]; rfl
theorem c156 {L : Nat} (h1 : 4096 ≤ L) (h2 : L ≤ 1073741824) {xs : List Int} {lo hi : Int} : MC Tryz.prog L 129 [aints xs, eI lo, eI hi] [] (Plain (eB (xs.all (inB lo hi)))) := by
 refine MC.alone ?_ rfl
 have hσ := SGok (nt := 21) h1 (Nat.le_trans h2 (by decide))
 refine MC.body hσ Tryz.func129 (by kernel_rfl) rfl rfl (Nat.le_of_ble_eq_true rfl) (fun hF => ?_)
 have hl : xs.length ≤ L := by simpa [As.fact, A.fact, M.fact, D.fact, Ds.fact] using hF.1.1
 refine jsr ?_
 refine jst hσ rfl rfl rfl rfl rfl ?_
 refine jn ?_
 refine AWP.seq ?_
 refine jsr ?_
 refine jst hσ rfl rfl rfl rfl rfl ?_
 first | refine jle hσ rfl rfl rfl rfl rfl rfl rfl rfl rfl rfl rfl ?_ | refine jst hσ rfl rfl rfl rfl rfl ?_ | refine jvf hσ rfl rfl rfl rfl rfl ?_
 refine jst hσ rfl rfl rfl rfl rfl ?_
 refine jn ?_
 refine AWP.block ?_
 refine AWP.loopP (X := Nat) (fun i => ⟨[(1, eI lo), (2, eI hi), (9, aints xs), (10, eI xs.length), (11, eI i)], []⟩) (fun i => i ≤ xs.length ∧ ∀ j (h : j < xs.length), j < i → inB lo hi xs[j] = true) (fun i => xs.length - i) 0 (Ent.env ⟨rfl, rfl, rfl, rfl, rfl, trivial⟩) ?_ (fun i hi => ?_)
 ·
  exact ⟨Nat.zero_le _, fun j h hj => absurd hj (Nat.not_lt_zero j)⟩
 refine jsr ?_
 refine jst hσ rfl rfl rfl rfl rfl ?_
 refine jn ?_
 refine AWP.seq ?_
 refine AWP.cond hσ rfl rfl (fun hc12 => ?_) (fun hc12 => ?_)
 ·
  try simp only [jcs] at hc12
  refine AWP.skip ?_
  refine AWP.seq ?_
  refine AWP.block ?_
  refine jsr ?_
  first | refine jix hσ rfl rfl rfl rfl rfl rfl rfl rfl rfl rfl rfl ?_ | refine jvf hσ rfl rfl rfl rfl rfl ?_
  iterate 2 refine jst hσ rfl rfl rfl rfl rfl ?_
  refine jns ?_
  iterate 3 refine jst hσ rfl rfl rfl rfl rfl ?_
  refine AOps.lone hσ rfl rfl rfl rfl (c111 h1 h2) (VAs.self rfl) rfl rfl rfl rfl rfl (B0 := 19000) rfl ?_
  refine jst hσ rfl rfl rfl rfl rfl ?_
  refine jn ?_
  refine AWP.cond hσ rfl rfl (fun hc19 => ?_) (fun hc19 => ?_)
  ·
   try simp only [jcs] at hc19
   refine jsr ?_
   refine jst hσ rfl rfl rfl rfl rfl ?_
   refine jn ?_
   refine AWP.ret ?_
   refine ⟨.inl rfl, _, Ent.refl, _, rfl, ?_⟩
   rw [Int.toNat_natCast, getD_lt (by omega)] at hc19
   rw [all_not i (by omega) hc19]
  ·
   try simp only [jcs] at hc19
   refine AWP.skip ?_
   refine AWP.region ?_
   first | refine jfi hσ rfl rfl rfl rfl rfl ?_ | refine jvf hσ rfl rfl rfl rfl rfl ?_
   refine jst hσ rfl rfl rfl rfl rfl ?_
   refine jn ?_
   refine ⟨i + 1, Ent.env ⟨rfl, rfl, rfl, rfl, rfl, trivial⟩, ⟨by omega, fun j h hj => ?_⟩, by omega⟩
   by_cases e : j = i
   ·
    subst e; rw [Int.toNat_natCast, getD_lt h] at hc19; exact hc19
   ·
    exact hi.2 j h (by omega)
 ·
  try simp only [jcs] at hc12
  refine AWP.exit ?_
  refine jsr ?_
  refine jst hσ rfl rfl rfl rfl rfl ?_
  refine jn ?_
  refine AWP.ret ?_
  refine ⟨.inl rfl, _, Ent.refl, _, rfl, ?_⟩
  rw [all_of (fun j hj => hi.2 j hj (by omega))]
theorem c176 {L : Nat} (h1 : 4096 ≤ L) (h2 : L ≤ 1073741824) {x : Int} : MC Tryz.prog L 119 [eI x] [] (Plain (eB (num x))) := by
 refine MC.alone ?_ rfl
 have hσ := SGok (nt := 5) h1 (Nat.le_trans h2 (by decide))
 refine MC.body hσ Tryz.func119 (by kernel_rfl) rfl rfl (Nat.le_of_ble_eq_true rfl) (fun hF => ?_)
 refine jsr ?_
 refine jst hσ rfl rfl rfl rfl rfl ?_
 refine jns ?_
 refine jst hσ rfl rfl rfl rfl rfl ?_
 refine AOps.lone hσ rfl rfl rfl rfl (c111 h1 h2) (VAs.self rfl) rfl rfl rfl rfl rfl (B0 := 5000) rfl ?_
 refine jst hσ rfl rfl rfl rfl rfl ?_
 refine jn ?_
 refine AWP.ret ?_
 refine ⟨.inl rfl, _, Ent.refl, _, rfl, ?_⟩
 first | rfl | skip
theorem validEq (t : Tm) : (bif bif bif decide ((t.xs.length : Int) ≤ 10) then num t.c else false then t.xs.all num else false then bif decide ((t.xs.length : Int) = 0) then true else !decide (t.xs.getD ((t.xs.length : Int) - 1).toNat default = 0) else false) = t.ok := by
  unfold Tm.ok
  cases num t.c <;> cases t.xs.all num <;> simp
  by_cases h0 : t.xs = []
  · simp [h0]
  · have h1 : 0 < t.xs.length := List.length_pos_iff.2 h0
    by_cases h2 : (t.xs.length : Int) ≤ 10
    · have h3 : ¬ (10 : Int) < t.xs.length := by omega
      simp [h0, h1, h2, h3]
    · have h3 : (10 : Int) < t.xs.length := by omega
      simp [h2, h3]
theorem c185 {L : Nat} (h1 : 4096 ≤ L) (h2 : L ≤ 1073741824) {t : Tm} : MC Tryz.prog L 124 [aTm' t] [] (Plain (eB t.ok)) := by
 refine MC.alone ?_ rfl
 have hσ := SGok (nt := 32) h1 (Nat.le_trans h2 (by decide))
 refine MC.body hσ Tryz.func124 (by kernel_rfl) rfl rfl (Nat.le_of_ble_eq_true rfl) (fun hF => ?_)
 have hl : t.xs.length ≤ L := by simpa [As.fact, A.fact, M.fact, Ms.fact, D.fact, Ds.fact] using hF.1.2.1.1
 refine jsr ?_
 refine AOps.heap (HS.box hσ rfl rfl rfl rfl rfl rfl rfl) rfl ?_
 refine jst hσ rfl rfl rfl rfl rfl ?_
 refine jns ?_
 iterate 2 refine jst hσ rfl rfl rfl rfl rfl ?_
 first | refine jle hσ rfl rfl rfl rfl rfl rfl rfl rfl rfl rfl rfl ?_ | refine jst hσ rfl rfl rfl rfl rfl ?_ | refine AOps.step (Val.vif hσ rfl rfl (by first | omega | (simp only [List.length_map, beq_iff_eq, decide_eq_true_eq, decide_eq_false_iff_not, Bool.not_eq_true', Bool.not_eq_false', Bool.not_true, Bool.not_false, Int.not_lt, Int.not_le] at *; omega))) rfl rfl rfl ?_
 refine jst hσ rfl rfl rfl rfl rfl ?_
 refine jf [3, 2, 1, 0] rfl ?_
 refine jns ?_
 iterate 3 refine jst hσ rfl rfl rfl rfl rfl ?_
 refine jf [9, 3, 2, 1, 0] rfl ?_
 refine AOps.gr 3 rfl rfl rfl (fun hx => AN.step hx rfl rfl rfl (Val.of hσ rfl rfl) rfl rfl ( AN.step hx rfl rfl rfl (Val.of hσ rfl rfl) rfl rfl ( AN.lone hσ hx rfl rfl rfl rfl (c176 h1 h2) (VAs.self rfl) rfl rfl rfl rfl rfl rfl rfl (B0 := 13000) rfl ( AN.nil)))) rfl rfl ?_
 first | refine AOps.step (Val.pickT hσ rfl rfl rfl rfl rfl) rfl rfl rfl ?_ | refine AOps.step (Val.pickF hσ rfl rfl rfl rfl rfl) rfl rfl rfl ?_ | refine AOps.step (Val.pickB hσ rfl rfl rfl rfl rfl) rfl rfl rfl ?_
 refine jst hσ rfl rfl rfl rfl rfl ?_
 refine jf [14, 3, 2, 1, 0] rfl ?_
 refine AOps.gr 3 rfl rfl rfl (fun hx => AN.step hx rfl rfl rfl (Val.of hσ rfl rfl) rfl rfl ( AN.step hx rfl rfl rfl (Val.of hσ rfl rfl) rfl rfl ( AN.lone hσ hx rfl rfl rfl rfl (c156 h1 h2) (VAs.self rfl) rfl rfl rfl rfl rfl rfl rfl (B0 := 18000) rfl ( AN.nil)))) rfl rfl ?_
 first | refine AOps.step (Val.pickT hσ rfl rfl rfl rfl rfl) rfl rfl rfl ?_ | refine AOps.step (Val.pickF hσ rfl rfl rfl rfl rfl) rfl rfl rfl ?_ | refine AOps.step (Val.pickB hσ rfl rfl rfl rfl rfl) rfl rfl rfl ?_
 refine jst hσ rfl rfl rfl rfl rfl ?_
 refine jf [19, 3, 2, 1, 0] rfl ?_
 refine AOps.gr 11 rfl rfl rfl (fun hx => AN.step hx rfl rfl rfl (Val.of hσ rfl rfl) rfl rfl ( AN.step hx rfl rfl rfl (Val.of hσ rfl rfl) rfl rfl ( AN.step hx rfl rfl rfl (Val.of hσ rfl rfl) rfl rfl ( AN.grp 7 rfl rfl rfl rfl (fun hx' => AN.step hx' rfl rfl rfl (Val.of hσ rfl rfl) rfl rfl ( AN.step hx' rfl rfl rfl (Val.of hσ rfl rfl) rfl rfl ( AN.step hx' rfl rfl rfl (Val.of hσ rfl rfl) rfl rfl ( AN.step hx' rfl rfl rfl (Val.fits64 hσ rfl rfl (by first | omega | (simp only [List.length_map, beq_iff_eq, decide_eq_true_eq, decide_eq_false_iff_not, Bool.not_eq_true', Bool.not_eq_false', Bool.not_true, Bool.not_false, Int.not_lt, Int.not_le] at *; omega)) (by first | omega | (simp only [List.length_map, beq_iff_eq, decide_eq_true_eq, decide_eq_false_iff_not, Bool.not_eq_true', Bool.not_eq_false', Bool.not_true, Bool.not_false, Int.not_lt, Int.not_le] at *; omega))) rfl rfl ( AN.step hx' rfl rfl rfl (Val.indexD hσ rfl rfl rfl rfl rfl rfl rfl rfl (by first | omega | (simp only [List.length_map, beq_iff_eq, decide_eq_true_eq, decide_eq_false_iff_not, Bool.not_eq_true', Bool.not_eq_false', Bool.not_true, Bool.not_false, Int.not_lt, Int.not_le] at *; omega)) (idx_get (by first | omega | (simp only [List.length_map, beq_iff_eq, decide_eq_true_eq, decide_eq_false_iff_not, Bool.not_eq_true', Bool.not_eq_false', Bool.not_true, Bool.not_false, Int.not_lt, Int.not_le] at *; omega)) (by first | omega | (simp only [List.length_map, beq_iff_eq, decide_eq_true_eq, decide_eq_false_iff_not, Bool.not_eq_true', Bool.not_eq_false', Bool.not_true, Bool.not_false, Int.not_lt, Int.not_le] at *; omega)))) rfl rfl ( AN.step hx' rfl rfl rfl (Val.of hσ rfl rfl) rfl rfl ( AN.step hx' rfl rfl rfl (Val.of hσ rfl rfl) rfl rfl ( AN.nil)))))))) rfl rfl ( AN.step hx rfl rfl rfl (Val.pickF hσ rfl rfl rfl rfl rfl) rfl rfl ( AN.nil)))))) rfl rfl ?_
 first | refine AOps.step (Val.pickT hσ rfl rfl rfl rfl rfl) rfl rfl rfl ?_ | refine AOps.step (Val.pickF hσ rfl rfl rfl rfl rfl) rfl rfl rfl ?_ | refine AOps.step (Val.pickB hσ rfl rfl rfl rfl rfl) rfl rfl rfl ?_
 refine jst hσ rfl rfl rfl rfl rfl ?_
 refine jf [2, 1, 0] rfl ?_
 refine jn ?_
 refine AWP.ret ?_
 refine ⟨.inl rfl, _, Ent.refl, _, rfl, ?_⟩
 exact congrArg eB (validEq t)
theorem c171 {L : Nat} (h1 : 4096 ≤ L) (h2 : L ≤ 1073741824) {t : Tm} : MC Tryz.prog L 106 [aTm' t] [] (Plain (eB t.term)) := by
 refine MC.alone ?_ rfl
 have hσ := SGok (nt := 11) h1 (Nat.le_trans h2 (by decide))
 refine MC.body hσ Tryz.func106 (by kernel_rfl) rfl rfl (Nat.le_of_ble_eq_true rfl) (fun hF => ?_)
 refine jsr ?_
 refine AOps.heap (HS.box hσ rfl rfl rfl rfl rfl rfl rfl) rfl ?_
 refine jst hσ rfl rfl rfl rfl rfl ?_
 refine jns ?_
 refine jst hσ rfl rfl rfl rfl rfl ?_
 refine AOps.lone hσ rfl rfl rfl rfl (c185 h1 h2) (VAs.self rfl) rfl rfl rfl rfl rfl (B0 := 5000) rfl ?_
 refine jst hσ rfl rfl rfl rfl rfl ?_
 refine jf [5, 2, 1, 0] rfl ?_
 refine AOps.gr 4 rfl rfl rfl (fun hx => AN.step hx rfl rfl rfl (Val.of hσ rfl rfl) rfl rfl ( AN.step hx rfl rfl rfl (Val.of hσ rfl rfl) rfl rfl ( AN.step hx rfl rfl rfl (Val.lenD hσ rfl rfl rfl rfl rfl rfl rfl rfl) rfl rfl ( AN.step hx rfl rfl rfl (Val.of hσ rfl rfl) rfl rfl ( AN.nil))))) rfl rfl ?_
 first | refine AOps.step (Val.pickT hσ rfl rfl rfl rfl rfl) rfl rfl rfl ?_ | refine AOps.step (Val.pickF hσ rfl rfl rfl rfl rfl) rfl rfl rfl ?_ | refine AOps.step (Val.pickB hσ rfl rfl rfl rfl rfl) rfl rfl rfl ?_
 refine jst hσ rfl rfl rfl rfl rfl ?_
 refine jf [2, 0] rfl ?_
 refine jn ?_
 refine AWP.ret ?_
 refine ⟨.inl rfl, _, Ent.refl, _, rfl, ?_⟩
 rw [Bool.cond_false_right]; rfl
theorem c206 {L : Nat} (h1 : 4096 ≤ L) (h2 : L ≤ 1073741824) {t : Tm} : MC Tryz.prog L 128 [aTm' t] [] (Plain (eB t.zero)) := by
 refine MC.alone ?_ rfl
 have hσ := SGok (nt := 12) h1 (Nat.le_trans h2 (by decide))
 refine MC.body hσ Tryz.func128 (by kernel_rfl) rfl rfl (Nat.le_of_ble_eq_true rfl) (fun hF => ?_)
 refine jsr ?_
 refine AOps.heap (HS.box hσ rfl rfl rfl rfl rfl rfl rfl) rfl ?_
 refine jst hσ rfl rfl rfl rfl rfl ?_
 refine jns ?_
 iterate 4 refine jst hσ rfl rfl rfl rfl rfl ?_
 refine jf [6, 2, 1, 0] rfl ?_
 refine AOps.gr 4 rfl rfl rfl (fun hx => AN.step hx rfl rfl rfl (Val.of hσ rfl rfl) rfl rfl ( AN.step hx rfl rfl rfl (Val.of hσ rfl rfl) rfl rfl ( AN.step hx rfl rfl rfl (Val.lenD hσ rfl rfl rfl rfl rfl rfl rfl rfl) rfl rfl ( AN.step hx rfl rfl rfl (Val.of hσ rfl rfl) rfl rfl ( AN.nil))))) rfl rfl ?_
 first | refine AOps.step (Val.pickT hσ rfl rfl rfl rfl rfl) rfl rfl rfl ?_ | refine AOps.step (Val.pickF hσ rfl rfl rfl rfl rfl) rfl rfl rfl ?_ | refine AOps.step (Val.pickB hσ rfl rfl rfl rfl rfl) rfl rfl rfl ?_
 refine jst hσ rfl rfl rfl rfl rfl ?_
 refine jf [2, 0] rfl ?_
 refine jn ?_
 refine AWP.ret ?_
 refine ⟨.inl rfl, _, Ent.refl, _, rfl, ?_⟩
 rw [Bool.cond_false_right]; rfl
theorem c170 {L : Nat} (h1 : 4096 ≤ L) (h2 : L ≤ 1073741824) {t : Tm} : MC Tryz.prog L 105 [aTm' t] [] (Plain (eB !t.term)) := by
 refine MC.alone ?_ rfl
 have hσ := SGok (nt := 6) h1 (Nat.le_trans h2 (by decide))
 refine MC.body hσ Tryz.func105 (by kernel_rfl) rfl rfl (Nat.le_of_ble_eq_true rfl) (fun hF => ?_)
 refine jsr ?_
 refine AOps.heap (HS.box hσ rfl rfl rfl rfl rfl rfl rfl) rfl ?_
 refine jst hσ rfl rfl rfl rfl rfl ?_
 refine jns ?_
 refine jst hσ rfl rfl rfl rfl rfl ?_
 refine jf [3, 2, 0] rfl ?_
 refine AOps.lone hσ rfl rfl rfl rfl (c171 h1 h2) (VAs.self rfl) rfl rfl rfl rfl rfl (B0 := 5000) rfl ?_
 iterate 2 refine jst hσ rfl rfl rfl rfl rfl ?_
 refine jf [2, 0] rfl ?_
 refine jn ?_
 refine AWP.ret ?_
 refine ⟨.inl rfl, _, Ent.refl, _, rfl, ?_⟩
 first | rfl | skip
def fIdx (ts : List Tm) : Int := if ts.all Tm.term = true then -1 else (ts.findIdx fun t => !t.term : Nat)
theorem fIdx_all {ts : List Tm} (h : ∀ j (hj : j < ts.length), Tm.term ts[j] = true) : fIdx ts = -1 := by rw [fIdx, if_pos (all_of h)]
theorem fIdx_at {ts : List Tm} {i : Nat} (hi : i < ts.length) (h : ∀ j (hj : j < ts.length), j < i → Tm.term ts[j] = true) (hn : Tm.term ts[i] = false) : fIdx ts = i := by
  rw [fIdx, if_neg (by rw [all_not i hi hn]; decide)]
  exact congrArg Nat.cast ((List.findIdx_eq hi).2 ⟨by simp [hn], fun j hj => by simp [h j (by omega) hj]⟩)
theorem fIdx_neg {ts : List Tm} : decide (fIdx ts ≥ 0) = !ts.all Tm.term := by
  unfold fIdx
  cases h : ts.all Tm.term <;> simp
theorem c196 {L : Nat} (h1 : 4096 ≤ L) (h2 : L ≤ 1073741824) {ts : List Tm} : MC Tryz.prog L 123 [atms ts, .c (.fn 105 [])] [] (Plain (eI (fIdx ts))) := by
 refine MC.alone ?_ rfl
 have hσ := SGok (nt := 19) h1 (Nat.le_trans h2 (by decide))
 refine MC.body hσ Tryz.func123 (by kernel_rfl) rfl rfl (Nat.le_of_ble_eq_true rfl) (fun hF => ?_)
 have hl : ts.length ≤ L := by simpa [As.fact, A.fact, M.fact, D.fact, Ds.fact] using hF.1.1
 refine jsr ?_
 refine jst hσ rfl rfl rfl rfl rfl ?_
 refine jn ?_
 refine AWP.seq ?_
 refine jsr ?_
 refine jst hσ rfl rfl rfl rfl rfl ?_
 first | refine jle hσ rfl rfl rfl rfl rfl rfl rfl rfl rfl rfl rfl ?_ | refine jst hσ rfl rfl rfl rfl rfl ?_ | refine jvf hσ rfl rfl rfl rfl rfl ?_
 refine jst hσ rfl rfl rfl rfl rfl ?_
 refine jn ?_
 refine AWP.block ?_
 refine AWP.loopP (X := Nat) (fun i => ⟨[(0, atms ts), (1, .c (.fn 105 [])), (7, eI ts.length), (8, eI i)], []⟩) (fun i => i ≤ ts.length ∧ ∀ j (h : j < ts.length), j < i → Tm.term ts[j] = true) (fun i => ts.length - i) 0 (Ent.env ⟨rfl, rfl, rfl, rfl, trivial⟩) ?_ (fun i hi => ?_)
 ·
  exact ⟨Nat.zero_le _, fun j h hj => absurd hj (Nat.not_lt_zero j)⟩
 refine jsr ?_
 refine jst hσ rfl rfl rfl rfl rfl ?_
 refine jn ?_
 refine AWP.seq ?_
 refine AWP.cond hσ rfl rfl (fun hc9 => ?_) (fun hc9 => ?_)
 ·
  try simp only [jcs] at hc9
  refine AWP.skip ?_
  refine AWP.seq ?_
  refine AWP.block ?_
  refine jsr ?_
  iterate 2 refine jst hσ rfl rfl rfl rfl rfl ?_
  refine jns ?_
  iterate 3 refine jst hσ rfl rfl rfl rfl rfl ?_
  first | refine jix hσ rfl rfl rfl rfl rfl rfl rfl rfl rfl rfl rfl ?_ | refine jvf hσ rfl rfl rfl rfl rfl ?_
  refine jst hσ rfl rfl rfl rfl rfl ?_
  refine AOps.lone hσ rfl rfl rfl rfl (c170 h1 h2) (VAs.self rfl) rfl rfl rfl rfl rfl (B0 := 17000) rfl ?_
  refine jn ?_
  refine AWP.cond hσ rfl rfl (fun hc16 => ?_) (fun hc16 => ?_)
  ·
   try simp only [jcs] at hc16
   refine jsr ?_
   iterate 2 refine jst hσ rfl rfl rfl rfl rfl ?_
   refine jn ?_
   refine AWP.ret ?_
   refine ⟨.inl rfl, _, Ent.refl, _, rfl, ?_⟩
   rw [Int.toNat_natCast, getD_lt (by omega)] at hc16
   rw [fIdx_at (by omega) hi.2 hc16]
  ·
   try simp only [jcs] at hc16
   refine AWP.skip ?_
   refine AWP.region ?_
   first | refine jfi hσ rfl rfl rfl rfl rfl ?_ | refine jvf hσ rfl rfl rfl rfl rfl ?_
   refine jst hσ rfl rfl rfl rfl rfl ?_
   refine jn ?_
   refine ⟨i + 1, Ent.env ⟨rfl, rfl, rfl, rfl, trivial⟩, ⟨by omega, fun j h hj => ?_⟩, by omega⟩
   by_cases e : j = i
   ·
    subst e; rw [Int.toNat_natCast, getD_lt h] at hc16; exact hc16
   ·
    exact hi.2 j h (by omega)
 ·
  try simp only [jcs] at hc9
  refine AWP.exit ?_
  refine jsr ?_
  refine jst hσ rfl rfl rfl rfl rfl ?_
  refine jn ?_
  refine AWP.ret ?_
  refine ⟨.inl rfl, _, Ent.refl, _, rfl, ?_⟩
  rw [fIdx_all (fun j hj => hi.2 j hj (by omega))]
theorem c169 {L : Nat} (h1 : 4096 ≤ L) (h2 : L ≤ 1073741824) {ts : List Tm} : MC Tryz.prog L 104 [atms ts, .c (.fn 105 [])] [] (Plain (eB !ts.all Tm.term)) := by
 refine MC.alone ?_ rfl
 have hσ := SGok (nt := 9) h1 (Nat.le_trans h2 (by decide))
 refine MC.body hσ Tryz.func104 (by kernel_rfl) rfl rfl (Nat.le_of_ble_eq_true rfl) (fun hF => ?_)
 refine jsr ?_
 refine jst hσ rfl rfl rfl rfl rfl ?_
 refine jns ?_
 iterate 2 refine jst hσ rfl rfl rfl rfl rfl ?_
 refine AOps.lone hσ rfl rfl rfl rfl (c196 h1 h2) (.cons (.c .d) (.cons (.c (.fn .nil)) .nil)) rfl rfl rfl rfl rfl (B0 := 8000) rfl ?_
 iterate 2 refine jst hσ rfl rfl rfl rfl rfl ?_
 refine jn ?_
 refine AWP.ret ?_
 refine ⟨.inl rfl, _, Ent.refl, _, rfl, ?_⟩
 exact congrArg eB fIdx_neg
theorem c125 {L : Nat} (h1 : 4096 ≤ L) (h2 : L ≤ 1073741824) {ts : List Tm} {n : Int} : MC Tryz.prog L 76 [atms ts, eI n] [] (Plain (eB (terms ts n))) := by
 refine MC.alone ?_ rfl
 have hσ := SGok (nt := 14) h1 (Nat.le_trans h2 (by decide))
 refine MC.body hσ Tryz.func76 (by kernel_rfl) rfl rfl (Nat.le_of_ble_eq_true rfl) (fun hF => ?_)
 refine jsr ?_
 refine jst hσ rfl rfl rfl rfl rfl ?_
 refine jns ?_
 refine jst hσ rfl rfl rfl rfl rfl ?_
 first | refine jle hσ rfl rfl rfl rfl rfl rfl rfl rfl rfl rfl rfl ?_ | refine jst hσ rfl rfl rfl rfl rfl ?_ | refine jvf hσ rfl rfl rfl rfl rfl ?_
 iterate 3 refine jst hσ rfl rfl rfl rfl rfl ?_
 refine AOps.gr 3 rfl rfl rfl (fun hx => AN.step hx rfl rfl rfl (Val.of hσ rfl rfl) rfl rfl ( AN.lone hσ hx rfl rfl rfl rfl (c169 h1 h2) (.cons (.c .d) (.cons (.c (.fn .nil)) .nil)) rfl rfl rfl rfl rfl rfl rfl (B0 := 12000) rfl ( AN.step hx rfl rfl rfl (Val.of hσ rfl rfl) rfl rfl ( AN.nil)))) rfl rfl ?_
 first | refine AOps.step (Val.pickT hσ rfl rfl rfl rfl rfl) rfl rfl rfl ?_ | refine AOps.step (Val.pickF hσ rfl rfl rfl rfl rfl) rfl rfl rfl ?_ | refine AOps.step (Val.pickB hσ rfl rfl rfl rfl rfl) rfl rfl rfl ?_
 refine jst hσ rfl rfl rfl rfl rfl ?_
 refine jn ?_
 refine AWP.ret ?_
 refine ⟨.inl rfl, _, Ent.refl, _, rfl, ?_⟩
 rw [Bool.cond_false_right, Bool.not_not, Bool.and_comm]; rfl
theorem c193 {L : Nat} (h1 : 4096 ≤ L) (h2 : L ≤ 1073741824) {x : Int} : MC Tryz.prog L 120 [eI x] [] (Plain (eB (inB 0 3 x))) := by
 refine MC.alone ?_ rfl
 have hσ := SGok (nt := 5) h1 (Nat.le_trans h2 (by decide))
 refine MC.body hσ Tryz.func120 (by kernel_rfl) rfl rfl (Nat.le_of_ble_eq_true rfl) (fun hF => ?_)
 refine jsr ?_
 refine jst hσ rfl rfl rfl rfl rfl ?_
 refine jns ?_
 refine jst hσ rfl rfl rfl rfl rfl ?_
 refine AOps.lone hσ rfl rfl rfl rfl (c111 h1 h2) (VAs.self rfl) rfl rfl rfl rfl rfl (B0 := 5000) rfl ?_
 refine jst hσ rfl rfl rfl rfl rfl ?_
 refine jn ?_
 refine AWP.ret ?_
 refine ⟨.inl rfl, _, Ent.refl, _, rfl, ?_⟩
 first | rfl | skip
theorem c195 {L : Nat} (h1 : 4096 ≤ L) (h2 : L ≤ 1073741824) {x : Int} : MC Tryz.prog L 122 [eI x] [] (Plain (eB (inB 0 3 x))) := by
 refine MC.alone ?_ rfl
 have hσ := SGok (nt := 5) h1 (Nat.le_trans h2 (by decide))
 refine MC.body hσ Tryz.func122 (by kernel_rfl) rfl rfl (Nat.le_of_ble_eq_true rfl) (fun hF => ?_)
 refine jsr ?_
 refine jst hσ rfl rfl rfl rfl rfl ?_
 refine jns ?_
 refine jst hσ rfl rfl rfl rfl rfl ?_
 refine AOps.lone hσ rfl rfl rfl rfl (c111 h1 h2) (VAs.self rfl) rfl rfl rfl rfl rfl (B0 := 5000) rfl ?_
 refine jst hσ rfl rfl rfl rfl rfl ?_
 refine jn ?_
 refine AWP.ret ?_
 refine ⟨.inl rfl, _, Ent.refl, _, rfl, ?_⟩
 first | rfl | skip
end Go.Al
namespace Go.Al
open Go.Proofs
set_option linter.unusedVariables false
set_option linter.unusedSimpArgs false
set_option maxRecDepth 10000
def kidsF (s : Sm) : Int := if stmtB s = true then below s.kind else -1

theorem zero_term {t : Tm} (h : t.zero = true) : t.term = true := by
  simp only [Tm.zero, Bool.and_eq_true, decide_eq_true_eq] at h
  obtain ⟨h1, h2⟩ := h
  have h3 : t.xs = [] := List.eq_nil_of_length_eq_zero (by omega)
  simp [Tm.term, Tm.ok, num, h1, h3]
theorem facts0 {ts : List Tm} (h : decide ((ts.length : Int) = 0) = true) : terms ts 6 = true := by
  have h3 : ts = [] := List.eq_nil_of_length_eq_zero (by have := of_decide_eq_true h; omega)
  subst h3; rfl
theorem factsP {ts : List Tm} : decide ((0 : Int) < ts.length) = !decide ((ts.length : Int) = 0) := by
  by_cases h : (ts.length : Int) = 0
  · simp [h]
  · have : (0 : Int) < ts.length := by omega
    simp only [h, this, decide_true, decide_false, Bool.not_false]
def stB' (n8 st it tf su sz ix iz k8 fp na v3 v0 k5 e3 e0 : Bool) : Bool :=
  bif (bif (bif (bif !n8 then true else !st) then true else !it) then true else !tf) then false
  else bif (bif (bif (bif !su then !sz else false) then true else (bif !ix then !iz else false)) then true else (bif !k8 then fp else false)) then false
  else bif (bif (bif na then !v3 else false) then true else (bif !na then !v0 else false)) then false
  else bif k5 then e3 else e0
theorem kb0 : ∀ st it tf sz iz f0 v3 v0 e3 e0 : Bool, (sz = true → st = true) → (iz = true → it = true) → (f0 = true → tf = true) → stB' true st it tf false sz false iz false (!f0) false v3 v0 false e3 e0 = (bif (bif (bif (bif v0 then e0 else false) then sz else false) then iz else false) then f0 else false) := by decide
theorem stm0 (s : Sm) (hk : decide (s.kind = 0) = true) : stmtB s = (bif (bif (bif (bif decide (s.var = 0) then decide (s.event = 0) else false) then s.sum.zero else false) then s.index.zero else false) then decide ((s.facts.length : Int) = 0) else false) := by
  rw [← kb0 s.sum.term s.index.term (terms s.facts 6) s.sum.zero s.index.zero (decide ((s.facts.length : Int) = 0)) (inB 0 3 s.var) (decide (s.var = 0)) (inB 0 3 s.event) (decide (s.event = 0)) zero_term zero_term facts0, ← factsP]
  cases s with
  | mk kind var event sum index facts =>
    have hk := of_decide_eq_true hk
    simp only at hk
    subst hk
    rfl
theorem kb1 : ∀ st it tf sz iz f0 v3 v0 e3 e0 : Bool, (sz = true → st = true) → (iz = true → it = true) → (f0 = true → tf = true) → stB' true st it tf false sz false iz false (!f0) false v3 v0 false e3 e0 = (bif (bif (bif (bif v0 then e0 else false) then sz else false) then iz else false) then f0 else false) := by decide
theorem stm1 (s : Sm) (hk : decide (s.kind = 1) = true) : stmtB s = (bif (bif (bif (bif decide (s.var = 0) then decide (s.event = 0) else false) then s.sum.zero else false) then s.index.zero else false) then decide ((s.facts.length : Int) = 0) else false) := by
  rw [← kb1 s.sum.term s.index.term (terms s.facts 6) s.sum.zero s.index.zero (decide ((s.facts.length : Int) = 0)) (inB 0 3 s.var) (decide (s.var = 0)) (inB 0 3 s.event) (decide (s.event = 0)) zero_term zero_term facts0, ← factsP]
  cases s with
  | mk kind var event sum index facts =>
    have hk := of_decide_eq_true hk
    simp only at hk
    subst hk
    rfl
theorem kb2 : ∀ st it tf sz iz f0 v3 v0 e3 e0 : Bool, (sz = true → st = true) → (iz = true → it = true) → (f0 = true → tf = true) → stB' true st it tf true sz false iz false (!f0) true v3 v0 false e3 e0 = (bif (bif (bif (bif v3 then e0 else false) then st else false) then iz else false) then f0 else false) := by decide
theorem stm2 (s : Sm) (hk : decide (s.kind = 2) = true) : stmtB s = (bif (bif (bif (bif inB 0 3 s.var then decide (s.event = 0) else false) then s.sum.term else false) then s.index.zero else false) then decide ((s.facts.length : Int) = 0) else false) := by
  rw [← kb2 s.sum.term s.index.term (terms s.facts 6) s.sum.zero s.index.zero (decide ((s.facts.length : Int) = 0)) (inB 0 3 s.var) (decide (s.var = 0)) (inB 0 3 s.event) (decide (s.event = 0)) zero_term zero_term facts0, ← factsP]
  cases s with
  | mk kind var event sum index facts =>
    have hk := of_decide_eq_true hk
    simp only at hk
    subst hk
    rfl
theorem kb3 : ∀ st it tf sz iz f0 v3 v0 e3 e0 : Bool, (sz = true → st = true) → (iz = true → it = true) → (f0 = true → tf = true) → stB' true st it tf false sz true iz false (!f0) true v3 v0 false e3 e0 = (bif (bif (bif (bif v3 then e0 else false) then sz else false) then it else false) then f0 else false) := by decide
theorem stm3 (s : Sm) (hk : decide (s.kind = 3) = true) : stmtB s = (bif (bif (bif (bif inB 0 3 s.var then decide (s.event = 0) else false) then s.sum.zero else false) then s.index.term else false) then decide ((s.facts.length : Int) = 0) else false) := by
  rw [← kb3 s.sum.term s.index.term (terms s.facts 6) s.sum.zero s.index.zero (decide ((s.facts.length : Int) = 0)) (inB 0 3 s.var) (decide (s.var = 0)) (inB 0 3 s.event) (decide (s.event = 0)) zero_term zero_term facts0, ← factsP]
  cases s with
  | mk kind var event sum index facts =>
    have hk := of_decide_eq_true hk
    simp only at hk
    subst hk
    rfl
theorem kb4 : ∀ st it tf sz iz f0 v3 v0 e3 e0 : Bool, (sz = true → st = true) → (iz = true → it = true) → (f0 = true → tf = true) → stB' true st it tf true sz true iz false (!f0) false v3 v0 false e3 e0 = (bif (bif (bif (bif v0 then e0 else false) then st else false) then it else false) then f0 else false) := by decide
theorem stm4 (s : Sm) (hk : decide (s.kind = 4) = true) : stmtB s = (bif (bif (bif (bif decide (s.var = 0) then decide (s.event = 0) else false) then s.sum.term else false) then s.index.term else false) then decide ((s.facts.length : Int) = 0) else false) := by
  rw [← kb4 s.sum.term s.index.term (terms s.facts 6) s.sum.zero s.index.zero (decide ((s.facts.length : Int) = 0)) (inB 0 3 s.var) (decide (s.var = 0)) (inB 0 3 s.event) (decide (s.event = 0)) zero_term zero_term facts0, ← factsP]
  cases s with
  | mk kind var event sum index facts =>
    have hk := of_decide_eq_true hk
    simp only at hk
    subst hk
    rfl
theorem kb5 : ∀ st it tf sz iz f0 v3 v0 e3 e0 : Bool, (sz = true → st = true) → (iz = true → it = true) → (f0 = true → tf = true) → stB' true st it tf false sz false iz false (!f0) false v3 v0 true e3 e0 = (bif (bif (bif (bif v0 then e3 else false) then sz else false) then iz else false) then f0 else false) := by decide
theorem stm5 (s : Sm) (hk : decide (s.kind = 5) = true) : stmtB s = (bif (bif (bif (bif decide (s.var = 0) then inB 0 3 s.event else false) then s.sum.zero else false) then s.index.zero else false) then decide ((s.facts.length : Int) = 0) else false) := by
  rw [← kb5 s.sum.term s.index.term (terms s.facts 6) s.sum.zero s.index.zero (decide ((s.facts.length : Int) = 0)) (inB 0 3 s.var) (decide (s.var = 0)) (inB 0 3 s.event) (decide (s.event = 0)) zero_term zero_term facts0, ← factsP]
  cases s with
  | mk kind var event sum index facts =>
    have hk := of_decide_eq_true hk
    simp only at hk
    subst hk
    rfl
theorem kb6 : ∀ st it tf sz iz f0 v3 v0 e3 e0 : Bool, (sz = true → st = true) → (iz = true → it = true) → (f0 = true → tf = true) → stB' true st it tf true sz false iz false (!f0) false v3 v0 false e3 e0 = (bif (bif (bif (bif v0 then e0 else false) then st else false) then iz else false) then f0 else false) := by decide
theorem stm6 (s : Sm) (hk : decide (s.kind = 6) = true) : stmtB s = (bif (bif (bif (bif decide (s.var = 0) then decide (s.event = 0) else false) then s.sum.term else false) then s.index.zero else false) then decide ((s.facts.length : Int) = 0) else false) := by
  rw [← kb6 s.sum.term s.index.term (terms s.facts 6) s.sum.zero s.index.zero (decide ((s.facts.length : Int) = 0)) (inB 0 3 s.var) (decide (s.var = 0)) (inB 0 3 s.event) (decide (s.event = 0)) zero_term zero_term facts0, ← factsP]
  cases s with
  | mk kind var event sum index facts =>
    have hk := of_decide_eq_true hk
    simp only at hk
    subst hk
    rfl
theorem kb7 : ∀ st it tf sz iz f0 v3 v0 e3 e0 : Bool, (sz = true → st = true) → (iz = true → it = true) → (f0 = true → tf = true) → stB' true st it tf true sz false iz false (!f0) false v3 v0 false e3 e0 = (bif (bif (bif (bif v0 then e0 else false) then st else false) then iz else false) then f0 else false) := by decide
theorem stm7 (s : Sm) (hk : decide (s.kind = 7) = true) : stmtB s = (bif (bif (bif (bif decide (s.var = 0) then decide (s.event = 0) else false) then s.sum.term else false) then s.index.zero else false) then decide ((s.facts.length : Int) = 0) else false) := by
  rw [← kb7 s.sum.term s.index.term (terms s.facts 6) s.sum.zero s.index.zero (decide ((s.facts.length : Int) = 0)) (inB 0 3 s.var) (decide (s.var = 0)) (inB 0 3 s.event) (decide (s.event = 0)) zero_term zero_term facts0, ← factsP]
  cases s with
  | mk kind var event sum index facts =>
    have hk := of_decide_eq_true hk
    simp only at hk
    subst hk
    rfl
theorem kb8 : ∀ st it tf sz iz f0 v3 v0 e3 e0 : Bool, (sz = true → st = true) → (iz = true → it = true) → (f0 = true → tf = true) → stB' true st it tf true sz false iz true (!f0) false v3 v0 false e3 e0 = (bif (bif (bif (bif v0 then e0 else false) then st else false) then iz else false) then tf else false) := by decide
theorem stm8 (s : Sm) (hk : decide (s.kind = 8) = true) : stmtB s = (bif (bif (bif (bif decide (s.var = 0) then decide (s.event = 0) else false) then s.sum.term else false) then s.index.zero else false) then terms s.facts 6 else false) := by
  rw [← kb8 s.sum.term s.index.term (terms s.facts 6) s.sum.zero s.index.zero (decide ((s.facts.length : Int) = 0)) (inB 0 3 s.var) (decide (s.var = 0)) (inB 0 3 s.event) (decide (s.event = 0)) zero_term zero_term facts0, ← factsP]
  cases s with
  | mk kind var event sum index facts =>
    have hk := of_decide_eq_true hk
    simp only at hk
    subst hk
    rfl
theorem c191 {L : Nat} (h1 : 4096 ≤ L) (h2 : L ≤ 1073741824) {s : Sm} : MC Tryz.prog L 115 [aSm s] [] (Plain (eI (kidsF s))) := by
 refine MC.alone ?_ rfl
 have hσ := SGok (nt := 185) h1 (Nat.le_trans h2 (by decide))
 refine MC.body hσ Tryz.func115 (by kernel_rfl) rfl rfl (Nat.le_of_ble_eq_true rfl) (fun hF => ?_)
 refine jsr ?_
 refine AOps.heap (HS.box hσ rfl rfl rfl rfl rfl rfl rfl) rfl ?_
 refine jst hσ rfl rfl rfl rfl rfl ?_
 refine jn ?_
 refine AWP.seq ?_
 refine AWP.drawR hσ _ [_, _, _, _, _, _, _, _, _, _, _, _, _, _, _, _, _, _, _, _, _] [⟨[], 0, 2, none⟩, ⟨[0], 0, 2, none⟩, ⟨[0, 1], 0, 2, none⟩, ⟨[], 0, 2, none⟩, ⟨[3], 0, 2, none⟩, ⟨[3, 4], 0, 2, none⟩, ⟨[], 0, 0, none⟩, ⟨[6], 0, 0, none⟩, ⟨[6, 7], 0, 0, some 0⟩, ⟨[], 0, 1, none⟩, ⟨[9], 0, 1, none⟩, ⟨[6, 7, 8, 9, 10], 0, 0, some 1⟩, ⟨[], 0, 2, none⟩, ⟨[12], 0, 2, none⟩, ⟨[12, 13], 0, 2, none⟩, ⟨[12, 13, 14], 0, 2, none⟩, ⟨[0, 1, 2, 6, 7, 8, 9, 10, 11], 2, 2, none⟩, ⟨[0, 1, 2, 3, 4, 5, 6, 7, 8, 9, 10, 11, 16], 2, 2, none⟩, ⟨[0, 1, 2, 3, 4, 5, 6, 7, 8, 9, 10, 11, 16, 17], 2, 2, none⟩, ⟨[0, 1, 2, 3, 4, 5, 6, 7, 8, 9, 10, 11, 16, 17, 18], 2, 2, none⟩, ⟨[0, 1, 2, 3, 4, 5, 6, 7, 8, 9, 10, 11, 12, 13, 14, 15, 16, 17, 18, 19], 2, 2, none⟩] [8, 11] [_, _, _] rfl rfl (by decide) (by decide) (by kernel_rfl) (And.intro (And.intro (Val.of hσ rfl rfl) (And.intro (Val.of hσ rfl rfl) (Val.of hσ rfl rfl))) (And.intro (And.intro (Val.of hσ rfl rfl) (And.intro (Val.of hσ rfl rfl) (Val.of hσ rfl rfl))) (And.intro (And.intro (Val.of hσ rfl rfl) (And.intro (Val.of hσ rfl rfl) (Val.of hσ rfl rfl))) (And.intro (And.intro (Val.of hσ rfl rfl) (And.intro (Val.of hσ rfl rfl) (Val.of hσ rfl rfl))) (And.intro (And.intro (Val.of hσ rfl rfl) (And.intro (Val.of hσ rfl rfl) (Val.of hσ rfl rfl))) (And.intro (And.intro (Val.of hσ rfl rfl) (And.intro (Val.of hσ rfl rfl) (Val.of hσ rfl rfl))) (And.intro (Val.of hσ rfl rfl) (And.intro (Val.of hσ rfl rfl) (And.intro (Eff.lone hσ (B0 := 18000) rfl rfl rfl rfl (c206 h1 h2) (VAs.self rfl) rfl rfl rfl rfl rfl) (And.intro (And.intro (Val.of hσ rfl rfl) (Val.of hσ rfl rfl)) (And.intro (And.intro (Val.of hσ rfl rfl) (Val.of hσ rfl rfl)) (And.intro (Eff.lone hσ (B0 := 21000) rfl rfl rfl rfl (c206 h1 h2) (VAs.self rfl) rfl rfl rfl rfl rfl) (And.intro (And.intro (Val.of hσ rfl rfl) (And.intro (Val.of hσ rfl rfl) (Val.of hσ rfl rfl))) (And.intro (And.intro (Val.of hσ rfl rfl) (And.intro (Val.of hσ rfl rfl) (Val.of hσ rfl rfl))) (And.intro (And.intro (Val.lenD hσ rfl rfl rfl rfl rfl rfl rfl rfl) (And.intro (Val.lenD hσ rfl rfl rfl rfl rfl rfl rfl rfl) (Val.lenD hσ rfl rfl rfl rfl rfl rfl rfl rfl))) (And.intro (And.intro (Val.of hσ rfl rfl) (And.intro (Val.of hσ rfl rfl) (Val.of hσ rfl rfl))) (And.intro (Val.of hσ rfl rfl) (And.intro (Val.of hσ rfl rfl) (And.intro (Val.of hσ rfl rfl) (And.intro (Val.of hσ rfl rfl) (And.intro (Val.of hσ rfl rfl) trivial))))))))))))))))))))) ?_
 refine jw [7, 6, 5, 4, 3, 2, 1, 0] rfl ?_
 refine jnw ?_
 refine jsr ?_
 refine jst hσ rfl rfl rfl rfl rfl ?_
 refine jn ?_
 refine AWP.seq ?_
 refine jsr ?_
 iterate 2 refine jst hσ rfl rfl rfl rfl rfl ?_
 refine jn ?_
 refine AWP.block ?_
 refine jsr ?_
 iterate 2 refine jst hσ rfl rfl rfl rfl rfl ?_
 refine jn ?_
 refine AWP.cond hσ rfl rfl (fun hc27 => ?_) (fun hc27 => ?_)
 ·
  skip
  refine jsr ?_
  iterate 2 refine jst hσ rfl rfl rfl rfl rfl ?_
  refine jf [30, 28, 26, 25, 8, 7, 6, 5, 4, 3, 2, 1, 0] rfl ?_
  refine AOps.gr 1 rfl rfl rfl (fun hx => AN.step hx rfl rfl rfl (Val.of hσ rfl rfl) rfl rfl ( AN.nil)) rfl rfl ?_
  first | refine AOps.step (Val.pickT hσ rfl rfl rfl rfl rfl) rfl rfl rfl ?_ | refine AOps.step (Val.pickF hσ rfl rfl rfl rfl rfl) rfl rfl rfl ?_ | refine AOps.step (Val.pickB hσ rfl rfl rfl rfl rfl) rfl rfl rfl ?_
  refine jst hσ rfl rfl rfl rfl rfl ?_
  refine jf [33, 28, 26, 25, 8, 7, 6, 5, 4, 3, 2, 1, 0] rfl ?_
  refine AOps.gr 1 rfl rfl rfl (fun hx => AN.step hx rfl rfl rfl (Val.of hσ rfl rfl) rfl rfl ( AN.nil)) rfl rfl ?_
  first | refine AOps.step (Val.pickT hσ rfl rfl rfl rfl rfl) rfl rfl rfl ?_ | refine AOps.step (Val.pickF hσ rfl rfl rfl rfl rfl) rfl rfl rfl ?_ | refine AOps.step (Val.pickB hσ rfl rfl rfl rfl rfl) rfl rfl rfl ?_
  refine jst hσ rfl rfl rfl rfl rfl ?_
  refine jf [36, 28, 26, 25, 8, 7, 6, 5, 4, 3, 2, 1, 0] rfl ?_
  refine AOps.gr 1 rfl rfl rfl (fun hx => AN.step hx rfl rfl rfl (Val.of hσ rfl rfl) rfl rfl ( AN.nil)) rfl rfl ?_
  first | refine AOps.step (Val.pickT hσ rfl rfl rfl rfl rfl) rfl rfl rfl ?_ | refine AOps.step (Val.pickF hσ rfl rfl rfl rfl rfl) rfl rfl rfl ?_ | refine AOps.step (Val.pickB hσ rfl rfl rfl rfl rfl) rfl rfl rfl ?_
  refine jst hσ rfl rfl rfl rfl rfl ?_
  refine jf [39, 28, 26, 25, 8, 7, 6, 5, 4, 3, 2, 1, 0] rfl ?_
  refine AOps.gr 1 rfl rfl rfl (fun hx => AN.step hx rfl rfl rfl (Val.of hσ rfl rfl) rfl rfl ( AN.nil)) rfl rfl ?_
  first | refine AOps.step (Val.pickT hσ rfl rfl rfl rfl rfl) rfl rfl rfl ?_ | refine AOps.step (Val.pickF hσ rfl rfl rfl rfl rfl) rfl rfl rfl ?_ | refine AOps.step (Val.pickB hσ rfl rfl rfl rfl rfl) rfl rfl rfl ?_
  refine jf [41, 28, 26, 25, 8, 7, 6, 5, 4, 3, 2, 1, 0] rfl ?_
  refine jn ?_
  refine AWP.cond hσ rfl rfl (fun hc41 => ?_) (fun hc41 => ?_)
  ·
   skip
   refine AWP.region ?_
   refine jst hσ rfl rfl rfl rfl rfl ?_
   refine jn ?_
   refine jsr ?_
   iterate 2 refine jst hσ rfl rfl rfl rfl rfl ?_
   refine jf [2, 28, 26, 25, 7, 6, 5, 4, 3, 1, 0] rfl ?_
   refine jn ?_
   refine AWP.ret ?_
   refine ⟨.inl rfl, _, Ent.refl, _, rfl, ?_⟩
   rw [kidsF, stm0 s hc27, hc41]
   simp [below, of_decide_eq_true hc27]
  ·
   skip
   refine AWP.skip ?_
   refine jsr ?_
   iterate 2 refine jst hσ rfl rfl rfl rfl rfl ?_
   refine jf [2, 28, 26, 25, 7, 6, 5, 4, 3, 1, 0] rfl ?_
   refine jn ?_
   refine AWP.ret ?_
   refine ⟨.inl rfl, _, Ent.refl, _, rfl, ?_⟩
   rw [kidsF, stm0 s hc27, hc41]
   simp
 ·
  skip
  refine jsr ?_
  iterate 2 refine jst hσ rfl rfl rfl rfl rfl ?_
  refine jf [42, 28, 26, 25, 8, 7, 6, 5, 4, 3, 2, 1, 0] rfl ?_
  refine jn ?_
  refine AWP.cond hσ rfl rfl (fun hc42 => ?_) (fun hc42 => ?_)
  ·
   skip
   refine jsr ?_
   iterate 2 refine jst hσ rfl rfl rfl rfl rfl ?_
   refine jf [45, 28, 26, 25, 8, 7, 6, 5, 4, 3, 2, 1, 0] rfl ?_
   refine AOps.gr 1 rfl rfl rfl (fun hx => AN.step hx rfl rfl rfl (Val.of hσ rfl rfl) rfl rfl ( AN.nil)) rfl rfl ?_
   first | refine AOps.step (Val.pickT hσ rfl rfl rfl rfl rfl) rfl rfl rfl ?_ | refine AOps.step (Val.pickF hσ rfl rfl rfl rfl rfl) rfl rfl rfl ?_ | refine AOps.step (Val.pickB hσ rfl rfl rfl rfl rfl) rfl rfl rfl ?_
   refine jst hσ rfl rfl rfl rfl rfl ?_
   refine jf [48, 28, 26, 25, 8, 7, 6, 5, 4, 3, 2, 1, 0] rfl ?_
   refine AOps.gr 1 rfl rfl rfl (fun hx => AN.step hx rfl rfl rfl (Val.of hσ rfl rfl) rfl rfl ( AN.nil)) rfl rfl ?_
   first | refine AOps.step (Val.pickT hσ rfl rfl rfl rfl rfl) rfl rfl rfl ?_ | refine AOps.step (Val.pickF hσ rfl rfl rfl rfl rfl) rfl rfl rfl ?_ | refine AOps.step (Val.pickB hσ rfl rfl rfl rfl rfl) rfl rfl rfl ?_
   refine jst hσ rfl rfl rfl rfl rfl ?_
   refine jf [51, 28, 26, 25, 8, 7, 6, 5, 4, 3, 2, 1, 0] rfl ?_
   refine AOps.gr 1 rfl rfl rfl (fun hx => AN.step hx rfl rfl rfl (Val.of hσ rfl rfl) rfl rfl ( AN.nil)) rfl rfl ?_
   first | refine AOps.step (Val.pickT hσ rfl rfl rfl rfl rfl) rfl rfl rfl ?_ | refine AOps.step (Val.pickF hσ rfl rfl rfl rfl rfl) rfl rfl rfl ?_ | refine AOps.step (Val.pickB hσ rfl rfl rfl rfl rfl) rfl rfl rfl ?_
   refine jst hσ rfl rfl rfl rfl rfl ?_
   refine jf [54, 28, 26, 25, 8, 7, 6, 5, 4, 3, 2, 1, 0] rfl ?_
   refine AOps.gr 1 rfl rfl rfl (fun hx => AN.step hx rfl rfl rfl (Val.of hσ rfl rfl) rfl rfl ( AN.nil)) rfl rfl ?_
   first | refine AOps.step (Val.pickT hσ rfl rfl rfl rfl rfl) rfl rfl rfl ?_ | refine AOps.step (Val.pickF hσ rfl rfl rfl rfl rfl) rfl rfl rfl ?_ | refine AOps.step (Val.pickB hσ rfl rfl rfl rfl rfl) rfl rfl rfl ?_
   refine jf [56, 28, 26, 25, 8, 7, 6, 5, 4, 3, 2, 1, 0] rfl ?_
   refine jn ?_
   refine AWP.cond hσ rfl rfl (fun hc56 => ?_) (fun hc56 => ?_)
   ·
    skip
    refine AWP.region ?_
    refine jst hσ rfl rfl rfl rfl rfl ?_
    refine jn ?_
    refine jsr ?_
    iterate 2 refine jst hσ rfl rfl rfl rfl rfl ?_
    refine jf [2, 28, 26, 25, 7, 6, 5, 4, 3, 1, 0] rfl ?_
    refine jn ?_
    refine AWP.ret ?_
    refine ⟨.inl rfl, _, Ent.refl, _, rfl, ?_⟩
    rw [kidsF, stm1 s hc42, hc56]
    simp [below, of_decide_eq_true hc42]
   ·
    skip
    refine AWP.skip ?_
    refine jsr ?_
    iterate 2 refine jst hσ rfl rfl rfl rfl rfl ?_
    refine jf [2, 28, 26, 25, 7, 6, 5, 4, 3, 1, 0] rfl ?_
    refine jn ?_
    refine AWP.ret ?_
    refine ⟨.inl rfl, _, Ent.refl, _, rfl, ?_⟩
    rw [kidsF, stm1 s hc42, hc56]
    simp
  ·
   skip
   refine jsr ?_
   iterate 2 refine jst hσ rfl rfl rfl rfl rfl ?_
   refine jf [57, 28, 26, 25, 8, 7, 6, 5, 4, 3, 2, 1, 0] rfl ?_
   refine jn ?_
   refine AWP.cond hσ rfl rfl (fun hc57 => ?_) (fun hc57 => ?_)
   ·
    skip
    refine jsr ?_
    iterate 2 refine jst hσ rfl rfl rfl rfl rfl ?_
    refine jf [60, 28, 26, 25, 8, 7, 6, 5, 4, 3, 2, 1, 0] rfl ?_
    refine AOps.lone hσ rfl rfl rfl rfl (c193 h1 h2) (VAs.self rfl) rfl rfl rfl rfl rfl (B0 := 62000) rfl ?_
    refine jst hσ rfl rfl rfl rfl rfl ?_
    refine jf [62, 28, 26, 25, 8, 7, 6, 5, 4, 3, 2, 1, 0] rfl ?_
    refine AOps.gr 1 rfl rfl rfl (fun hx => AN.step hx rfl rfl rfl (Val.of hσ rfl rfl) rfl rfl ( AN.nil)) rfl rfl ?_
    first | refine AOps.step (Val.pickT hσ rfl rfl rfl rfl rfl) rfl rfl rfl ?_ | refine AOps.step (Val.pickF hσ rfl rfl rfl rfl rfl) rfl rfl rfl ?_ | refine AOps.step (Val.pickB hσ rfl rfl rfl rfl rfl) rfl rfl rfl ?_
    refine jst hσ rfl rfl rfl rfl rfl ?_
    refine jf [65, 28, 26, 25, 8, 7, 6, 5, 4, 3, 2, 1, 0] rfl ?_
    refine AOps.gr 3 rfl rfl rfl (fun hx => AN.step hx rfl rfl rfl (Val.of hσ rfl rfl) rfl rfl ( AN.step hx rfl rfl rfl (Val.of hσ rfl rfl) rfl rfl ( AN.lone hσ hx rfl rfl rfl rfl (c171 h1 h2) (VAs.self rfl) rfl rfl rfl rfl rfl rfl rfl (B0 := 69000) rfl ( AN.nil)))) rfl rfl ?_
    first | refine AOps.step (Val.pickT hσ rfl rfl rfl rfl rfl) rfl rfl rfl ?_ | refine AOps.step (Val.pickF hσ rfl rfl rfl rfl rfl) rfl rfl rfl ?_ | refine AOps.step (Val.pickB hσ rfl rfl rfl rfl rfl) rfl rfl rfl ?_
    refine jst hσ rfl rfl rfl rfl rfl ?_
    refine jf [70, 28, 26, 25, 8, 7, 6, 5, 4, 3, 2, 1, 0] rfl ?_
    refine AOps.gr 1 rfl rfl rfl (fun hx => AN.step hx rfl rfl rfl (Val.of hσ rfl rfl) rfl rfl ( AN.nil)) rfl rfl ?_
    first | refine AOps.step (Val.pickT hσ rfl rfl rfl rfl rfl) rfl rfl rfl ?_ | refine AOps.step (Val.pickF hσ rfl rfl rfl rfl rfl) rfl rfl rfl ?_ | refine AOps.step (Val.pickB hσ rfl rfl rfl rfl rfl) rfl rfl rfl ?_
    refine jst hσ rfl rfl rfl rfl rfl ?_
    refine jf [73, 28, 26, 25, 8, 7, 6, 5, 4, 3, 2, 1, 0] rfl ?_
    refine AOps.gr 1 rfl rfl rfl (fun hx => AN.step hx rfl rfl rfl (Val.of hσ rfl rfl) rfl rfl ( AN.nil)) rfl rfl ?_
    first | refine AOps.step (Val.pickT hσ rfl rfl rfl rfl rfl) rfl rfl rfl ?_ | refine AOps.step (Val.pickF hσ rfl rfl rfl rfl rfl) rfl rfl rfl ?_ | refine AOps.step (Val.pickB hσ rfl rfl rfl rfl rfl) rfl rfl rfl ?_
    refine jf [75, 28, 26, 25, 8, 7, 6, 5, 4, 3, 2, 1, 0] rfl ?_
    refine jn ?_
    refine AWP.cond hσ rfl rfl (fun hc75 => ?_) (fun hc75 => ?_)
    ·
     skip
     refine AWP.region ?_
     refine jst hσ rfl rfl rfl rfl rfl ?_
     refine jn ?_
     refine jsr ?_
     iterate 2 refine jst hσ rfl rfl rfl rfl rfl ?_
     refine jf [2, 28, 26, 25, 7, 6, 5, 4, 3, 1, 0] rfl ?_
     refine jn ?_
     refine AWP.ret ?_
     refine ⟨.inl rfl, _, Ent.refl, _, rfl, ?_⟩
     rw [kidsF, stm2 s hc57, hc75]
     simp [below, of_decide_eq_true hc57]
    ·
     skip
     refine AWP.skip ?_
     refine jsr ?_
     iterate 2 refine jst hσ rfl rfl rfl rfl rfl ?_
     refine jf [2, 28, 26, 25, 7, 6, 5, 4, 3, 1, 0] rfl ?_
     refine jn ?_
     refine AWP.ret ?_
     refine ⟨.inl rfl, _, Ent.refl, _, rfl, ?_⟩
     rw [kidsF, stm2 s hc57, hc75]
     simp
   ·
    skip
    refine jsr ?_
    iterate 2 refine jst hσ rfl rfl rfl rfl rfl ?_
    refine jf [76, 28, 26, 25, 8, 7, 6, 5, 4, 3, 2, 1, 0] rfl ?_
    refine jn ?_
    refine AWP.cond hσ rfl rfl (fun hc76 => ?_) (fun hc76 => ?_)
    ·
     skip
     refine jsr ?_
     iterate 2 refine jst hσ rfl rfl rfl rfl rfl ?_
     refine jf [79, 28, 26, 25, 8, 7, 6, 5, 4, 3, 2, 1, 0] rfl ?_
     refine AOps.lone hσ rfl rfl rfl rfl (c193 h1 h2) (VAs.self rfl) rfl rfl rfl rfl rfl (B0 := 81000) rfl ?_
     refine jst hσ rfl rfl rfl rfl rfl ?_
     refine jf [81, 28, 26, 25, 8, 7, 6, 5, 4, 3, 2, 1, 0] rfl ?_
     refine AOps.gr 1 rfl rfl rfl (fun hx => AN.step hx rfl rfl rfl (Val.of hσ rfl rfl) rfl rfl ( AN.nil)) rfl rfl ?_
     first | refine AOps.step (Val.pickT hσ rfl rfl rfl rfl rfl) rfl rfl rfl ?_ | refine AOps.step (Val.pickF hσ rfl rfl rfl rfl rfl) rfl rfl rfl ?_ | refine AOps.step (Val.pickB hσ rfl rfl rfl rfl rfl) rfl rfl rfl ?_
     refine jst hσ rfl rfl rfl rfl rfl ?_
     refine jf [84, 28, 26, 25, 8, 7, 6, 5, 4, 3, 2, 1, 0] rfl ?_
     refine AOps.gr 1 rfl rfl rfl (fun hx => AN.step hx rfl rfl rfl (Val.of hσ rfl rfl) rfl rfl ( AN.nil)) rfl rfl ?_
     first | refine AOps.step (Val.pickT hσ rfl rfl rfl rfl rfl) rfl rfl rfl ?_ | refine AOps.step (Val.pickF hσ rfl rfl rfl rfl rfl) rfl rfl rfl ?_ | refine AOps.step (Val.pickB hσ rfl rfl rfl rfl rfl) rfl rfl rfl ?_
     refine jst hσ rfl rfl rfl rfl rfl ?_
     refine jf [87, 28, 26, 25, 8, 7, 6, 5, 4, 3, 2, 1, 0] rfl ?_
     refine AOps.gr 3 rfl rfl rfl (fun hx => AN.step hx rfl rfl rfl (Val.of hσ rfl rfl) rfl rfl ( AN.step hx rfl rfl rfl (Val.of hσ rfl rfl) rfl rfl ( AN.lone hσ hx rfl rfl rfl rfl (c171 h1 h2) (VAs.self rfl) rfl rfl rfl rfl rfl rfl rfl (B0 := 91000) rfl ( AN.nil)))) rfl rfl ?_
     first | refine AOps.step (Val.pickT hσ rfl rfl rfl rfl rfl) rfl rfl rfl ?_ | refine AOps.step (Val.pickF hσ rfl rfl rfl rfl rfl) rfl rfl rfl ?_ | refine AOps.step (Val.pickB hσ rfl rfl rfl rfl rfl) rfl rfl rfl ?_
     refine jst hσ rfl rfl rfl rfl rfl ?_
     refine jf [92, 28, 26, 25, 8, 7, 6, 5, 4, 3, 2, 1, 0] rfl ?_
     refine AOps.gr 1 rfl rfl rfl (fun hx => AN.step hx rfl rfl rfl (Val.of hσ rfl rfl) rfl rfl ( AN.nil)) rfl rfl ?_
     first | refine AOps.step (Val.pickT hσ rfl rfl rfl rfl rfl) rfl rfl rfl ?_ | refine AOps.step (Val.pickF hσ rfl rfl rfl rfl rfl) rfl rfl rfl ?_ | refine AOps.step (Val.pickB hσ rfl rfl rfl rfl rfl) rfl rfl rfl ?_
     refine jf [94, 28, 26, 25, 8, 7, 6, 5, 4, 3, 2, 1, 0] rfl ?_
     refine jn ?_
     refine AWP.cond hσ rfl rfl (fun hc94 => ?_) (fun hc94 => ?_)
     ·
      skip
      refine AWP.region ?_
      refine jst hσ rfl rfl rfl rfl rfl ?_
      refine jn ?_
      refine jsr ?_
      iterate 2 refine jst hσ rfl rfl rfl rfl rfl ?_
      refine jf [2, 28, 26, 25, 7, 6, 5, 4, 3, 1, 0] rfl ?_
      refine jn ?_
      refine AWP.ret ?_
      refine ⟨.inl rfl, _, Ent.refl, _, rfl, ?_⟩
      rw [kidsF, stm3 s hc76, hc94]
      simp [below, of_decide_eq_true hc76]
     ·
      skip
      refine AWP.skip ?_
      refine jsr ?_
      iterate 2 refine jst hσ rfl rfl rfl rfl rfl ?_
      refine jf [2, 28, 26, 25, 7, 6, 5, 4, 3, 1, 0] rfl ?_
      refine jn ?_
      refine AWP.ret ?_
      refine ⟨.inl rfl, _, Ent.refl, _, rfl, ?_⟩
      rw [kidsF, stm3 s hc76, hc94]
      simp
    ·
     skip
     refine jsr ?_
     iterate 2 refine jst hσ rfl rfl rfl rfl rfl ?_
     refine jf [95, 28, 26, 25, 8, 7, 6, 5, 4, 3, 2, 1, 0] rfl ?_
     refine jn ?_
     refine AWP.cond hσ rfl rfl (fun hc95 => ?_) (fun hc95 => ?_)
     ·
      skip
      refine jsr ?_
      iterate 2 refine jst hσ rfl rfl rfl rfl rfl ?_
      refine jf [98, 28, 26, 25, 8, 7, 6, 5, 4, 3, 2, 1, 0] rfl ?_
      refine AOps.gr 1 rfl rfl rfl (fun hx => AN.step hx rfl rfl rfl (Val.of hσ rfl rfl) rfl rfl ( AN.nil)) rfl rfl ?_
      first | refine AOps.step (Val.pickT hσ rfl rfl rfl rfl rfl) rfl rfl rfl ?_ | refine AOps.step (Val.pickF hσ rfl rfl rfl rfl rfl) rfl rfl rfl ?_ | refine AOps.step (Val.pickB hσ rfl rfl rfl rfl rfl) rfl rfl rfl ?_
      refine jst hσ rfl rfl rfl rfl rfl ?_
      refine jf [101, 28, 26, 25, 8, 7, 6, 5, 4, 3, 2, 1, 0] rfl ?_
      refine AOps.gr 3 rfl rfl rfl (fun hx => AN.step hx rfl rfl rfl (Val.of hσ rfl rfl) rfl rfl ( AN.step hx rfl rfl rfl (Val.of hσ rfl rfl) rfl rfl ( AN.lone hσ hx rfl rfl rfl rfl (c171 h1 h2) (VAs.self rfl) rfl rfl rfl rfl rfl rfl rfl (B0 := 105000) rfl ( AN.nil)))) rfl rfl ?_
      first | refine AOps.step (Val.pickT hσ rfl rfl rfl rfl rfl) rfl rfl rfl ?_ | refine AOps.step (Val.pickF hσ rfl rfl rfl rfl rfl) rfl rfl rfl ?_ | refine AOps.step (Val.pickB hσ rfl rfl rfl rfl rfl) rfl rfl rfl ?_
      refine jst hσ rfl rfl rfl rfl rfl ?_
      refine jf [106, 28, 26, 25, 8, 7, 6, 5, 4, 3, 2, 1, 0] rfl ?_
      refine AOps.gr 3 rfl rfl rfl (fun hx => AN.step hx rfl rfl rfl (Val.of hσ rfl rfl) rfl rfl ( AN.step hx rfl rfl rfl (Val.of hσ rfl rfl) rfl rfl ( AN.lone hσ hx rfl rfl rfl rfl (c171 h1 h2) (VAs.self rfl) rfl rfl rfl rfl rfl rfl rfl (B0 := 110000) rfl ( AN.nil)))) rfl rfl ?_
      first | refine AOps.step (Val.pickT hσ rfl rfl rfl rfl rfl) rfl rfl rfl ?_ | refine AOps.step (Val.pickF hσ rfl rfl rfl rfl rfl) rfl rfl rfl ?_ | refine AOps.step (Val.pickB hσ rfl rfl rfl rfl rfl) rfl rfl rfl ?_
      refine jst hσ rfl rfl rfl rfl rfl ?_
      refine jf [111, 28, 26, 25, 8, 7, 6, 5, 4, 3, 2, 1, 0] rfl ?_
      refine AOps.gr 1 rfl rfl rfl (fun hx => AN.step hx rfl rfl rfl (Val.of hσ rfl rfl) rfl rfl ( AN.nil)) rfl rfl ?_
      first | refine AOps.step (Val.pickT hσ rfl rfl rfl rfl rfl) rfl rfl rfl ?_ | refine AOps.step (Val.pickF hσ rfl rfl rfl rfl rfl) rfl rfl rfl ?_ | refine AOps.step (Val.pickB hσ rfl rfl rfl rfl rfl) rfl rfl rfl ?_
      refine jf [113, 28, 26, 25, 8, 7, 6, 5, 4, 3, 2, 1, 0] rfl ?_
      refine jn ?_
      refine AWP.cond hσ rfl rfl (fun hc113 => ?_) (fun hc113 => ?_)
      ·
       skip
       refine AWP.region ?_
       refine jst hσ rfl rfl rfl rfl rfl ?_
       refine jn ?_
       refine jsr ?_
       iterate 2 refine jst hσ rfl rfl rfl rfl rfl ?_
       refine jf [2, 28, 26, 25, 7, 6, 5, 4, 3, 1, 0] rfl ?_
       refine jn ?_
       refine AWP.ret ?_
       refine ⟨.inl rfl, _, Ent.refl, _, rfl, ?_⟩
       rw [kidsF, stm4 s hc95, hc113]
       simp [below, of_decide_eq_true hc95]
      ·
       skip
       refine AWP.skip ?_
       refine jsr ?_
       iterate 2 refine jst hσ rfl rfl rfl rfl rfl ?_
       refine jf [2, 28, 26, 25, 7, 6, 5, 4, 3, 1, 0] rfl ?_
       refine jn ?_
       refine AWP.ret ?_
       refine ⟨.inl rfl, _, Ent.refl, _, rfl, ?_⟩
       rw [kidsF, stm4 s hc95, hc113]
       simp
     ·
      skip
      refine jsr ?_
      iterate 2 refine jst hσ rfl rfl rfl rfl rfl ?_
      refine jf [114, 28, 26, 25, 8, 7, 6, 5, 4, 3, 2, 1, 0] rfl ?_
      refine jn ?_
      refine AWP.cond hσ rfl rfl (fun hc114 => ?_) (fun hc114 => ?_)
      ·
       skip
       refine jsr ?_
       iterate 2 refine jst hσ rfl rfl rfl rfl rfl ?_
       refine jf [117, 28, 26, 25, 8, 7, 6, 5, 4, 3, 2, 1, 0] rfl ?_
       refine AOps.gr 3 rfl rfl rfl (fun hx => AN.step hx rfl rfl rfl (Val.of hσ rfl rfl) rfl rfl ( AN.step hx rfl rfl rfl (Val.of hσ rfl rfl) rfl rfl ( AN.lone hσ hx rfl rfl rfl rfl (c195 h1 h2) (VAs.self rfl) rfl rfl rfl rfl rfl rfl rfl (B0 := 121000) rfl ( AN.nil)))) rfl rfl ?_
       first | refine AOps.step (Val.pickT hσ rfl rfl rfl rfl rfl) rfl rfl rfl ?_ | refine AOps.step (Val.pickF hσ rfl rfl rfl rfl rfl) rfl rfl rfl ?_ | refine AOps.step (Val.pickB hσ rfl rfl rfl rfl rfl) rfl rfl rfl ?_
       refine jst hσ rfl rfl rfl rfl rfl ?_
       refine jf [122, 28, 26, 25, 8, 7, 6, 5, 4, 3, 2, 1, 0] rfl ?_
       refine AOps.gr 1 rfl rfl rfl (fun hx => AN.step hx rfl rfl rfl (Val.of hσ rfl rfl) rfl rfl ( AN.nil)) rfl rfl ?_
       first | refine AOps.step (Val.pickT hσ rfl rfl rfl rfl rfl) rfl rfl rfl ?_ | refine AOps.step (Val.pickF hσ rfl rfl rfl rfl rfl) rfl rfl rfl ?_ | refine AOps.step (Val.pickB hσ rfl rfl rfl rfl rfl) rfl rfl rfl ?_
       refine jst hσ rfl rfl rfl rfl rfl ?_
       refine jf [125, 28, 26, 25, 8, 7, 6, 5, 4, 3, 2, 1, 0] rfl ?_
       refine AOps.gr 1 rfl rfl rfl (fun hx => AN.step hx rfl rfl rfl (Val.of hσ rfl rfl) rfl rfl ( AN.nil)) rfl rfl ?_
       first | refine AOps.step (Val.pickT hσ rfl rfl rfl rfl rfl) rfl rfl rfl ?_ | refine AOps.step (Val.pickF hσ rfl rfl rfl rfl rfl) rfl rfl rfl ?_ | refine AOps.step (Val.pickB hσ rfl rfl rfl rfl rfl) rfl rfl rfl ?_
       refine jst hσ rfl rfl rfl rfl rfl ?_
       refine jf [128, 28, 26, 25, 8, 7, 6, 5, 4, 3, 2, 1, 0] rfl ?_
       refine AOps.gr 1 rfl rfl rfl (fun hx => AN.step hx rfl rfl rfl (Val.of hσ rfl rfl) rfl rfl ( AN.nil)) rfl rfl ?_
       first | refine AOps.step (Val.pickT hσ rfl rfl rfl rfl rfl) rfl rfl rfl ?_ | refine AOps.step (Val.pickF hσ rfl rfl rfl rfl rfl) rfl rfl rfl ?_ | refine AOps.step (Val.pickB hσ rfl rfl rfl rfl rfl) rfl rfl rfl ?_
       refine jf [130, 28, 26, 25, 8, 7, 6, 5, 4, 3, 2, 1, 0] rfl ?_
       refine jn ?_
       refine AWP.cond hσ rfl rfl (fun hc130 => ?_) (fun hc130 => ?_)
       ·
        skip
        refine AWP.region ?_
        refine jst hσ rfl rfl rfl rfl rfl ?_
        refine jn ?_
        refine jsr ?_
        iterate 2 refine jst hσ rfl rfl rfl rfl rfl ?_
        refine jf [2, 28, 26, 25, 7, 6, 5, 4, 3, 1, 0] rfl ?_
        refine jn ?_
        refine AWP.ret ?_
        refine ⟨.inl rfl, _, Ent.refl, _, rfl, ?_⟩
        rw [kidsF, stm5 s hc114, hc130]
        simp [below, of_decide_eq_true hc114]
       ·
        skip
        refine AWP.skip ?_
        refine jsr ?_
        iterate 2 refine jst hσ rfl rfl rfl rfl rfl ?_
        refine jf [2, 28, 26, 25, 7, 6, 5, 4, 3, 1, 0] rfl ?_
        refine jn ?_
        refine AWP.ret ?_
        refine ⟨.inl rfl, _, Ent.refl, _, rfl, ?_⟩
        rw [kidsF, stm5 s hc114, hc130]
        simp
      ·
       skip
       refine jsr ?_
       iterate 2 refine jst hσ rfl rfl rfl rfl rfl ?_
       refine jf [131, 28, 26, 25, 8, 7, 6, 5, 4, 3, 2, 1, 0] rfl ?_
       refine jn ?_
       refine AWP.cond hσ rfl rfl (fun hc131 => ?_) (fun hc131 => ?_)
       ·
        skip
        refine jsr ?_
        iterate 2 refine jst hσ rfl rfl rfl rfl rfl ?_
        refine jf [134, 28, 26, 25, 8, 7, 6, 5, 4, 3, 2, 1, 0] rfl ?_
        refine AOps.gr 1 rfl rfl rfl (fun hx => AN.step hx rfl rfl rfl (Val.of hσ rfl rfl) rfl rfl ( AN.nil)) rfl rfl ?_
        first | refine AOps.step (Val.pickT hσ rfl rfl rfl rfl rfl) rfl rfl rfl ?_ | refine AOps.step (Val.pickF hσ rfl rfl rfl rfl rfl) rfl rfl rfl ?_ | refine AOps.step (Val.pickB hσ rfl rfl rfl rfl rfl) rfl rfl rfl ?_
        refine jst hσ rfl rfl rfl rfl rfl ?_
        refine jf [137, 28, 26, 25, 8, 7, 6, 5, 4, 3, 2, 1, 0] rfl ?_
        refine AOps.gr 3 rfl rfl rfl (fun hx => AN.step hx rfl rfl rfl (Val.of hσ rfl rfl) rfl rfl ( AN.step hx rfl rfl rfl (Val.of hσ rfl rfl) rfl rfl ( AN.lone hσ hx rfl rfl rfl rfl (c171 h1 h2) (VAs.self rfl) rfl rfl rfl rfl rfl rfl rfl (B0 := 141000) rfl ( AN.nil)))) rfl rfl ?_
        first | refine AOps.step (Val.pickT hσ rfl rfl rfl rfl rfl) rfl rfl rfl ?_ | refine AOps.step (Val.pickF hσ rfl rfl rfl rfl rfl) rfl rfl rfl ?_ | refine AOps.step (Val.pickB hσ rfl rfl rfl rfl rfl) rfl rfl rfl ?_
        refine jst hσ rfl rfl rfl rfl rfl ?_
        refine jf [142, 28, 26, 25, 8, 7, 6, 5, 4, 3, 2, 1, 0] rfl ?_
        refine AOps.gr 1 rfl rfl rfl (fun hx => AN.step hx rfl rfl rfl (Val.of hσ rfl rfl) rfl rfl ( AN.nil)) rfl rfl ?_
        first | refine AOps.step (Val.pickT hσ rfl rfl rfl rfl rfl) rfl rfl rfl ?_ | refine AOps.step (Val.pickF hσ rfl rfl rfl rfl rfl) rfl rfl rfl ?_ | refine AOps.step (Val.pickB hσ rfl rfl rfl rfl rfl) rfl rfl rfl ?_
        refine jst hσ rfl rfl rfl rfl rfl ?_
        refine jf [145, 28, 26, 25, 8, 7, 6, 5, 4, 3, 2, 1, 0] rfl ?_
        refine AOps.gr 1 rfl rfl rfl (fun hx => AN.step hx rfl rfl rfl (Val.of hσ rfl rfl) rfl rfl ( AN.nil)) rfl rfl ?_
        first | refine AOps.step (Val.pickT hσ rfl rfl rfl rfl rfl) rfl rfl rfl ?_ | refine AOps.step (Val.pickF hσ rfl rfl rfl rfl rfl) rfl rfl rfl ?_ | refine AOps.step (Val.pickB hσ rfl rfl rfl rfl rfl) rfl rfl rfl ?_
        refine jf [147, 28, 26, 25, 8, 7, 6, 5, 4, 3, 2, 1, 0] rfl ?_
        refine jn ?_
        refine AWP.cond hσ rfl rfl (fun hc147 => ?_) (fun hc147 => ?_)
        ·
         skip
         refine AWP.region ?_
         refine jst hσ rfl rfl rfl rfl rfl ?_
         refine jn ?_
         refine jsr ?_
         iterate 2 refine jst hσ rfl rfl rfl rfl rfl ?_
         refine jf [2, 28, 26, 25, 7, 6, 5, 4, 3, 1, 0] rfl ?_
         refine jn ?_
         refine AWP.ret ?_
         refine ⟨.inl rfl, _, Ent.refl, _, rfl, ?_⟩
         rw [kidsF, stm6 s hc131, hc147]
         simp [below, of_decide_eq_true hc131]
        ·
         skip
         refine AWP.skip ?_
         refine jsr ?_
         iterate 2 refine jst hσ rfl rfl rfl rfl rfl ?_
         refine jf [2, 28, 26, 25, 7, 6, 5, 4, 3, 1, 0] rfl ?_
         refine jn ?_
         refine AWP.ret ?_
         refine ⟨.inl rfl, _, Ent.refl, _, rfl, ?_⟩
         rw [kidsF, stm6 s hc131, hc147]
         simp
       ·
        skip
        refine jsr ?_
        iterate 2 refine jst hσ rfl rfl rfl rfl rfl ?_
        refine jf [148, 28, 26, 25, 8, 7, 6, 5, 4, 3, 2, 1, 0] rfl ?_
        refine jn ?_
        refine AWP.cond hσ rfl rfl (fun hc148 => ?_) (fun hc148 => ?_)
        ·
         skip
         refine jsr ?_
         iterate 2 refine jst hσ rfl rfl rfl rfl rfl ?_
         refine jf [151, 28, 26, 25, 8, 7, 6, 5, 4, 3, 2, 1, 0] rfl ?_
         refine AOps.gr 1 rfl rfl rfl (fun hx => AN.step hx rfl rfl rfl (Val.of hσ rfl rfl) rfl rfl ( AN.nil)) rfl rfl ?_
         first | refine AOps.step (Val.pickT hσ rfl rfl rfl rfl rfl) rfl rfl rfl ?_ | refine AOps.step (Val.pickF hσ rfl rfl rfl rfl rfl) rfl rfl rfl ?_ | refine AOps.step (Val.pickB hσ rfl rfl rfl rfl rfl) rfl rfl rfl ?_
         refine jst hσ rfl rfl rfl rfl rfl ?_
         refine jf [154, 28, 26, 25, 8, 7, 6, 5, 4, 3, 2, 1, 0] rfl ?_
         refine AOps.gr 3 rfl rfl rfl (fun hx => AN.step hx rfl rfl rfl (Val.of hσ rfl rfl) rfl rfl ( AN.step hx rfl rfl rfl (Val.of hσ rfl rfl) rfl rfl ( AN.lone hσ hx rfl rfl rfl rfl (c171 h1 h2) (VAs.self rfl) rfl rfl rfl rfl rfl rfl rfl (B0 := 158000) rfl ( AN.nil)))) rfl rfl ?_
         first | refine AOps.step (Val.pickT hσ rfl rfl rfl rfl rfl) rfl rfl rfl ?_ | refine AOps.step (Val.pickF hσ rfl rfl rfl rfl rfl) rfl rfl rfl ?_ | refine AOps.step (Val.pickB hσ rfl rfl rfl rfl rfl) rfl rfl rfl ?_
         refine jst hσ rfl rfl rfl rfl rfl ?_
         refine jf [159, 28, 26, 25, 8, 7, 6, 5, 4, 3, 2, 1, 0] rfl ?_
         refine AOps.gr 1 rfl rfl rfl (fun hx => AN.step hx rfl rfl rfl (Val.of hσ rfl rfl) rfl rfl ( AN.nil)) rfl rfl ?_
         first | refine AOps.step (Val.pickT hσ rfl rfl rfl rfl rfl) rfl rfl rfl ?_ | refine AOps.step (Val.pickF hσ rfl rfl rfl rfl rfl) rfl rfl rfl ?_ | refine AOps.step (Val.pickB hσ rfl rfl rfl rfl rfl) rfl rfl rfl ?_
         refine jst hσ rfl rfl rfl rfl rfl ?_
         refine jf [162, 28, 26, 25, 8, 7, 6, 5, 4, 3, 2, 1, 0] rfl ?_
         refine AOps.gr 1 rfl rfl rfl (fun hx => AN.step hx rfl rfl rfl (Val.of hσ rfl rfl) rfl rfl ( AN.nil)) rfl rfl ?_
         first | refine AOps.step (Val.pickT hσ rfl rfl rfl rfl rfl) rfl rfl rfl ?_ | refine AOps.step (Val.pickF hσ rfl rfl rfl rfl rfl) rfl rfl rfl ?_ | refine AOps.step (Val.pickB hσ rfl rfl rfl rfl rfl) rfl rfl rfl ?_
         refine jf [164, 28, 26, 25, 8, 7, 6, 5, 4, 3, 2, 1, 0] rfl ?_
         refine jn ?_
         refine AWP.cond hσ rfl rfl (fun hc164 => ?_) (fun hc164 => ?_)
         ·
          skip
          refine AWP.region ?_
          refine jst hσ rfl rfl rfl rfl rfl ?_
          refine jn ?_
          refine jsr ?_
          iterate 2 refine jst hσ rfl rfl rfl rfl rfl ?_
          refine jf [2, 28, 26, 25, 7, 6, 5, 4, 3, 1, 0] rfl ?_
          refine jn ?_
          refine AWP.ret ?_
          refine ⟨.inl rfl, _, Ent.refl, _, rfl, ?_⟩
          rw [kidsF, stm7 s hc148, hc164]
          simp [below, of_decide_eq_true hc148]
         ·
          skip
          refine AWP.skip ?_
          refine jsr ?_
          iterate 2 refine jst hσ rfl rfl rfl rfl rfl ?_
          refine jf [2, 28, 26, 25, 7, 6, 5, 4, 3, 1, 0] rfl ?_
          refine jn ?_
          refine AWP.ret ?_
          refine ⟨.inl rfl, _, Ent.refl, _, rfl, ?_⟩
          rw [kidsF, stm7 s hc148, hc164]
          simp
        ·
         skip
         refine jsr ?_
         iterate 2 refine jst hσ rfl rfl rfl rfl rfl ?_
         refine jf [165, 28, 26, 25, 8, 7, 6, 5, 4, 3, 2, 1, 0] rfl ?_
         refine jn ?_
         refine AWP.cond hσ rfl rfl (fun hc165 => ?_) (fun hc165 => ?_)
         ·
          skip
          refine jsr ?_
          iterate 2 refine jst hσ rfl rfl rfl rfl rfl ?_
          refine jf [168, 28, 26, 25, 8, 7, 6, 5, 4, 3, 2, 1, 0] rfl ?_
          refine AOps.gr 1 rfl rfl rfl (fun hx => AN.step hx rfl rfl rfl (Val.of hσ rfl rfl) rfl rfl ( AN.nil)) rfl rfl ?_
          first | refine AOps.step (Val.pickT hσ rfl rfl rfl rfl rfl) rfl rfl rfl ?_ | refine AOps.step (Val.pickF hσ rfl rfl rfl rfl rfl) rfl rfl rfl ?_ | refine AOps.step (Val.pickB hσ rfl rfl rfl rfl rfl) rfl rfl rfl ?_
          refine jst hσ rfl rfl rfl rfl rfl ?_
          refine jf [171, 28, 26, 25, 8, 7, 6, 5, 4, 3, 2, 1, 0] rfl ?_
          refine AOps.gr 3 rfl rfl rfl (fun hx => AN.step hx rfl rfl rfl (Val.of hσ rfl rfl) rfl rfl ( AN.step hx rfl rfl rfl (Val.of hσ rfl rfl) rfl rfl ( AN.lone hσ hx rfl rfl rfl rfl (c171 h1 h2) (VAs.self rfl) rfl rfl rfl rfl rfl rfl rfl (B0 := 175000) rfl ( AN.nil)))) rfl rfl ?_
          first | refine AOps.step (Val.pickT hσ rfl rfl rfl rfl rfl) rfl rfl rfl ?_ | refine AOps.step (Val.pickF hσ rfl rfl rfl rfl rfl) rfl rfl rfl ?_ | refine AOps.step (Val.pickB hσ rfl rfl rfl rfl rfl) rfl rfl rfl ?_
          refine jst hσ rfl rfl rfl rfl rfl ?_
          refine jf [176, 28, 26, 25, 8, 7, 6, 5, 4, 3, 2, 1, 0] rfl ?_
          refine AOps.gr 1 rfl rfl rfl (fun hx => AN.step hx rfl rfl rfl (Val.of hσ rfl rfl) rfl rfl ( AN.nil)) rfl rfl ?_
          first | refine AOps.step (Val.pickT hσ rfl rfl rfl rfl rfl) rfl rfl rfl ?_ | refine AOps.step (Val.pickF hσ rfl rfl rfl rfl rfl) rfl rfl rfl ?_ | refine AOps.step (Val.pickB hσ rfl rfl rfl rfl rfl) rfl rfl rfl ?_
          refine jst hσ rfl rfl rfl rfl rfl ?_
          refine jf [179, 28, 26, 25, 8, 7, 6, 5, 4, 3, 2, 1, 0] rfl ?_
          refine AOps.gr 3 rfl rfl rfl (fun hx => AN.step hx rfl rfl rfl (Val.of hσ rfl rfl) rfl rfl ( AN.step hx rfl rfl rfl (Val.of hσ rfl rfl) rfl rfl ( AN.lone hσ hx rfl rfl rfl rfl (c125 h1 h2) (VAs.self rfl) rfl rfl rfl rfl rfl rfl rfl (B0 := 183000) rfl ( AN.nil)))) rfl rfl ?_
          first | refine AOps.step (Val.pickT hσ rfl rfl rfl rfl rfl) rfl rfl rfl ?_ | refine AOps.step (Val.pickF hσ rfl rfl rfl rfl rfl) rfl rfl rfl ?_ | refine AOps.step (Val.pickB hσ rfl rfl rfl rfl rfl) rfl rfl rfl ?_
          refine jf [183, 28, 26, 25, 8, 7, 6, 5, 4, 3, 2, 1, 0] rfl ?_
          refine jn ?_
          refine AWP.cond hσ rfl rfl (fun hc183 => ?_) (fun hc183 => ?_)
          ·
           skip
           refine AWP.region ?_
           refine jst hσ rfl rfl rfl rfl rfl ?_
           refine jn ?_
           refine jsr ?_
           iterate 2 refine jst hσ rfl rfl rfl rfl rfl ?_
           refine jf [2, 28, 26, 25, 7, 6, 5, 4, 3, 1, 0] rfl ?_
           refine jn ?_
           refine AWP.ret ?_
           refine ⟨.inl rfl, _, Ent.refl, _, rfl, ?_⟩
           rw [kidsF, stm8 s hc165, hc183]
           simp [below, of_decide_eq_true hc165]
          ·
           skip
           refine AWP.skip ?_
           refine jsr ?_
           iterate 2 refine jst hσ rfl rfl rfl rfl rfl ?_
           refine jf [2, 28, 26, 25, 7, 6, 5, 4, 3, 1, 0] rfl ?_
           refine jn ?_
           refine AWP.ret ?_
           refine ⟨.inl rfl, _, Ent.refl, _, rfl, ?_⟩
           rw [kidsF, stm8 s hc165, hc183]
           simp
         ·
          skip
          refine AWP.skip ?_
          refine jsr ?_
          iterate 2 refine jst hσ rfl rfl rfl rfl rfl ?_
          refine jf [2, 28, 26, 25, 7, 6, 5, 4, 3, 1, 0] rfl ?_
          refine jn ?_
          refine AWP.ret ?_
          refine ⟨.inl rfl, _, Ent.refl, _, rfl, ?_⟩
          have hn : (decide (0 ≤ s.kind) && decide (s.kind ≤ 8)) = false := by
           have := of_decide_eq_false hc27
           have := of_decide_eq_false hc42
           have := of_decide_eq_false hc57
           have := of_decide_eq_false hc76
           have := of_decide_eq_false hc95
           have := of_decide_eq_false hc114
           have := of_decide_eq_false hc131
           have := of_decide_eq_false hc148
           have := of_decide_eq_false hc165
           rw [← Bool.not_eq_true]; intro h; simp only [Bool.and_eq_true, decide_eq_true_eq] at h; omega
          rw [kidsF, stmtB, show sB1 s = true by unfold sB1; rw [hn]; rfl]; rfl
end Go.Al
namespace Go.Al
open Go.Proofs
set_option linter.unusedVariables false
set_option linter.unusedSimpArgs false
set_option maxRecDepth 10000
inductive Tr where
  | node (s : Sm) (at_ : Int) (kids : List Tr)
mutual
def Tr.d : Tr → D
  | .node s a ks => .ptr [.int .i64 s.kind, .int .i64 s.var, .int .i64 s.event, .int .i64 s.sum.c, ints s.sum.xs, .int .i64 s.index.c, ints s.index.xs, tms s.facts, .int .i64 a, .slc 1 (Trs.d ks)] 0
def Trs.d : List Tr → List (List D)
  | [] => []
  | t :: r => [t.d] :: Trs.d r
end
theorem Trs.d_length : ∀ {ts : List Tr}, (Trs.d ts).length = ts.length
  | [] => rfl
  | t :: r => by simp [Trs.d, Trs.d_length]
theorem Trs.d_snoc : ∀ {ts : List Tr} {t : Tr}, Trs.d (ts ++ [t]) = Trs.d ts ++ [[t.d]]
  | [], t => rfl
  | u :: r, t => by simp [Trs.d, Trs.d_snoc]
def iterT (f : Nat → Option (Tr × Nat)) : Nat → Nat → Option (List Tr × Nat)
  | 0, k => some ([], k)
  | q + 1, k => match f k with
    | none => none
    | some (t, k') => (iterT f q k').map fun r => (t :: r.1, r.2)
def treeF : Nat → List Sm → Nat → Option (Tr × Nat)
  | 0, _, _ => none
  | n + 1, body, k => if body.length ≤ k then none else if kidsF (body.getD k default) < 0 then none else
      (iterT (treeF n body) (kidsF (body.getD k default)).toNat (k + 1)).map fun r => (.node (body.getD k default) k r.1, r.2)
theorem iterT_some {f : Nat → Option (Tr × Nat)} {q k k' : Nat} {t : Tr} (h : f k = some (t, k')) : iterT f (q + 1) k = (iterT f q k').map fun r => (t :: r.1, r.2) := by rw [iterT, h]
theorem iterT_none {f : Nat → Option (Tr × Nat)} {q k : Nat} (h : f k = none) : iterT f (q + 1) k = none := by rw [iterT, h]
theorem iterT_le {f : Nat → Option (Tr × Nat)} {N : Nat} (hf : ∀ k t k', f k = some (t, k') → k < k' ∧ k' ≤ N) : ∀ {q k ts k'}, iterT f q k = some (ts, k') → k ≤ N → k ≤ k' ∧ k' ≤ N
  | 0, k, ts, k', h, hk => by simp [iterT] at h; omega
  | q + 1, k, ts, k', h, hk => by
    unfold iterT at h
    cases hx : f k with
    | none => rw [hx] at h; cases h
    | some x =>
      obtain ⟨t, k1⟩ := x
      rw [hx] at h
      simp only [Option.map_eq_some_iff] at h
      obtain ⟨⟨ts1, k2⟩, h1, h2⟩ := h
      simp only [Prod.mk.injEq] at h2
      have h3 := hf k t k1 hx
      have h4 := iterT_le hf h1 h3.2
      omega
theorem treeF_le : ∀ {n body k t k'}, treeF n body k = some (t, k') → k < k' ∧ k' ≤ body.length
  | 0, _, _, _, _, h => by cases h
  | n + 1, body, k, t, k', h => by
    unfold treeF at h
    split at h
    · cases h
    · split at h
      · cases h
      · simp only [Option.map_eq_some_iff] at h
        obtain ⟨⟨ts1, k2⟩, h1, h2⟩ := h
        simp only [Prod.mk.injEq] at h2
        have := iterT_le (N := body.length) (fun k t k' h => treeF_le h) h1 (by omega)
        omega
abbrev tP (r : Option (Tr × Nat)) : D := match r with | some (t, _) => t.d | none => .nilp
abbrev tN (r : Option (Tr × Nat)) : Int := match r with | some (_, k) => k | none => 0
abbrev tB (r : Option (Tr × Nat)) : Bool := match r with | some _ => true | none => false
abbrev resT (r : Option (Tr × Nat)) : A := .tup [.c (.d (tP r)), eI (tN r), eB (tB r)]
theorem tB_true {r : Option (Tr × Nat)} (h : tB r = true) : ∃ t k, r = some (t, k) := by
  cases r with
  | none => cases h
  | some x => exact ⟨x.1, x.2, rfl⟩
theorem tB_false {r : Option (Tr × Nat)} (h : tB r = false) : r = none := by
  cases r with
  | none => rfl
  | some x => cases h
theorem kidsF_le (s : Sm) : kidsF s ≤ 2 := by
  unfold kidsF; split
  · exact (below_le _).2
  · decide

theorem c157s {L : Nat} (h1 : 4096 ≤ L) (h2 : L ≤ 1073741824) {body : List Sm} {n k : Nat} (hk : k ≤ body.length) (hn : body.length < n + 1 + k) (ih : ∀ k', k' ≤ body.length → body.length < n + k' → MC Tryz.prog L 93 [.c (.d (sms body)), eI k'] [] (Plain (resT (treeF n body k')))) : MC Tryz.prog L 93 [.c (.d (sms body)), eI k] [] (Plain (resT (treeF (n + 1) body k))) := by
 have hσ := SGok (nt := 58) h1 (Nat.le_trans h2 (by decide))
 refine MC.body hσ Tryz.func93 (by kernel_rfl) rfl rfl (Nat.le_of_ble_eq_true rfl) (fun hF => ?_)
 have hl : body.length ≤ L := by simpa [As.fact, A.fact, M.fact, D.fact, Ds.fact] using hF.1.1
 refine jsr ?_
 iterate 3 refine jst hσ rfl rfl rfl rfl rfl ?_
 refine jn ?_
 refine AWP.seq ?_
 refine jsr ?_
 iterate 2 refine jst hσ rfl rfl rfl rfl rfl ?_
 first | refine jle hσ rfl rfl rfl rfl rfl rfl rfl rfl rfl rfl rfl ?_ | refine jst hσ rfl rfl rfl rfl rfl ?_ | refine jvf hσ rfl rfl rfl rfl rfl ?_
 refine jst hσ rfl rfl rfl rfl rfl ?_
 refine jf [15, 6, 5, 4, 0, 1] rfl ?_
 refine jn ?_
 refine AWP.cond hσ rfl rfl (fun hc15 => ?_) (fun hc15 => ?_)
 ·
  try simp only [jcs] at hc15
  refine jsr ?_
  iterate 3 refine jst hσ rfl rfl rfl rfl rfl ?_
  refine jn ?_
  refine AWP.ret ?_
  refine ⟨.inl rfl, _, Ent.sel [] rfl rfl (e' := [(4, .c (.d .nilp)), (5, eI 0), (6, eB false)]) ⟨rfl, rfl, rfl, trivial⟩ rfl, _, rfl, ?_, rfl⟩
  rw [show treeF (n + 1) body k = none from if_pos (by omega)]
 ·
  try simp only [jcs] at hc15
  refine AWP.skip ?_
  refine jsr ?_
  iterate 2 refine jst hσ rfl rfl rfl rfl rfl ?_
  first | refine jix hσ rfl rfl rfl rfl rfl rfl rfl rfl rfl rfl rfl ?_ | refine jvf hσ rfl rfl rfl rfl rfl ?_
  refine jst hσ rfl rfl rfl rfl rfl ?_
  refine jf [19, 6, 5, 4, 0, 1] rfl ?_
  refine AOps.lone hσ rfl rfl rfl rfl (c191 h1 h2) (VAs.self rfl) rfl rfl rfl rfl rfl (B0 := 21000) rfl ?_
  refine jst hσ rfl rfl rfl rfl rfl ?_
  refine jf [7, 6, 5, 4, 0, 1] rfl ?_
  refine jn ?_
  refine AWP.seq ?_
  refine jsr ?_
  iterate 2 refine jst hσ rfl rfl rfl rfl rfl ?_
  refine jn ?_
  refine AWP.cond hσ rfl rfl (fun hc22 => ?_) (fun hc22 => ?_)
  ·
   try simp only [jcs] at hc22
   refine jsr ?_
   iterate 3 refine jst hσ rfl rfl rfl rfl rfl ?_
   refine jn ?_
   refine AWP.ret ?_
   refine ⟨.inl rfl, _, Ent.sel [] rfl rfl (e' := [(4, .c (.d .nilp)), (5, eI 0), (6, eB false)]) ⟨rfl, rfl, rfl, trivial⟩ rfl, _, rfl, ?_, rfl⟩
   rw [show treeF (n + 1) body k = none by unfold treeF; rw [if_neg (by omega)]; exact if_pos hc22]
  ·
   try simp only [jcs] at hc22
   refine AWP.skip ?_
   refine jsr ?_
   iterate 2 refine jst hσ rfl rfl rfl rfl rfl ?_
   first | refine jix hσ rfl rfl rfl rfl rfl rfl rfl rfl rfl rfl rfl ?_ | refine jvf hσ rfl rfl rfl rfl rfl ?_
   iterate 3 refine jst hσ rfl rfl rfl rfl rfl ?_
   refine jf [28, 21, 7, 6, 5, 4, 0, 1] rfl ?_
   refine AOps.heap (HS.box hσ rfl rfl rfl rfl rfl rfl rfl) rfl ?_
   refine jnm ?_
   refine jst hσ rfl rfl rfl rfl rfl ?_
   refine jf [8, 21, 7, 6, 5, 4, 0, 1] rfl ?_
   refine jns ?_
   refine jst hσ rfl rfl rfl rfl rfl ?_
   first | refine jfi hσ rfl rfl rfl rfl rfl ?_ | refine jvf hσ rfl rfl rfl rfl rfl ?_
   refine jst hσ rfl rfl rfl rfl rfl ?_
   refine jf [1, 8, 21, 7, 6, 5, 4, 0] rfl ?_
   refine jn ?_
   refine AWP.seq ?_
   refine AWP.block ?_
   refine AWP.loopP (X := Nat × Nat × List Tr) (fun x => ⟨[(0, .c (.d (sms body))), (1, eI x.2.1), (7, eI x.1), (8, .c (.pt 29 0 0))], [(29, .box [.d (.int .i64 (body.getD k default).kind), .d (.int .i64 (body.getD k default).var), .d (.int .i64 (body.getD k default).event), .d (.int .i64 (body.getD k default).sum.c), .d (ints (body.getD k default).sum.xs), .d (.int .i64 (body.getD k default).index.c), .d (ints (body.getD k default).index.xs), .d (tms (body.getD k default).facts), .d (.int .i64 k), .rs 700 0 x.2.2.length]), (700, .row false 1 (Trs.d x.2.2))]⟩) (fun x => x.2.1 ≤ body.length ∧ k < x.2.1 ∧ iterT (treeF n body) (kidsF (body.getD k default)).toNat (k + 1) = (iterT (treeF n body) x.1 x.2.1).map (fun r => (x.2.2 ++ r.1, r.2)) ∧ x.2.2.length + x.1 ≤ 2) (fun x => x.1) ((kidsF (body.getD k default)).toNat, k + 1, []) ((Ent.nameBox 29 700 1 false 9 rfl rfl rfl).trans (Ent.to ⟨rfl, rfl, congrArg (fun z => some (eI z)) (Int.toNat_of_nonneg hc22).symm, rfl, trivial⟩ rfl)) ?_ (fun x hi => ?_)
   ·
    exact ⟨(show k + 1 ≤ body.length by omega), Nat.lt_succ_self k, by simp, by have := kidsF_le (body.getD k default); show 0 + (kidsF (body.getD k default)).toNat ≤ 2; omega⟩
   refine AWP.seq ?_
   refine jsr ?_
   iterate 2 refine jst hσ rfl rfl rfl rfl rfl ?_
   refine jn ?_
   refine AWP.cond hσ rfl rfl (fun hc33 => ?_) (fun hc33 => ?_)
   ·
    try simp only [jcs] at hc33
    refine AWP.skip ?_
    refine AWP.seq ?_
    refine AWP.block ?_
    refine jsr ?_
    iterate 2 refine jst hσ rfl rfl rfl rfl rfl ?_
    refine AOps.plainD hσ rfl rfl rfl rfl (ih x.2.1 hi.1 (by omega)) (VAs.self rfl) rfl rfl rfl rfl (B0 := 40000) rfl rfl ?_
    iterate 7 refine jst hσ rfl rfl rfl rfl rfl ?_
    refine jf [11, 10, 9, 33, 32, 0, 1, 7, 8] rfl ?_
    refine jn ?_
    refine AWP.seq ?_
    refine jsr ?_
    iterate 2 refine jst hσ rfl rfl rfl rfl rfl ?_
    refine jf [44, 10, 9, 33, 32, 0, 1, 7, 8] rfl ?_
    refine jn ?_
    refine AWP.cond hσ rfl rfl (fun hc44 => ?_) (fun hc44 => ?_)
    ·
     try simp only [jcs] at hc44
     refine jsr ?_
     iterate 3 refine jst hσ rfl rfl rfl rfl rfl ?_
     refine jn ?_
     refine AWP.ret ?_
     refine ⟨.inl rfl, _, Ent.sel [] rfl rfl (e' := [(4, .c (.d .nilp)), (5, eI 0), (6, eB false)]) ⟨rfl, rfl, rfl, trivial⟩ rfl, _, rfl, ?_, rfl⟩
     have e0 := tB_false hc44
     rw [Int.toNat_natCast] at hc22
     rw [show treeF (n + 1) body k = none by
      unfold treeF
      rw [if_neg (by omega), if_neg (by omega), hi.2.2.1]
      obtain ⟨q, hq⟩ : ∃ q, x.1 = q + 1 := ⟨x.1 - 1, by omega⟩
      rw [hq, iterT_none e0]; rfl]
    ·
     try simp only [jcs] at hc44
     refine AWP.skip ?_
     refine jsr ?_
     obtain ⟨t1, k1, hr⟩ := tB_true hc44
     obtain ⟨s1, a1, ks1⟩ := t1
     rw [hr]
     iterate 6 refine jst hσ rfl rfl rfl rfl rfl ?_
     refine jf [50, 49, 45, 44, 10, 33, 32, 0, 1, 7, 8] rfl ?_
     refine AOps.heap (HS.lit hσ rfl rfl rfl) rfl ?_
     refine jnm ?_
     refine jf [51, 49, 45, 44, 10, 33, 32, 0, 1, 7, 8] rfl ?_
     refine AOps.heap (HS.appCopy (own := false) hσ rfl rfl rfl rfl rfl rfl rfl rfl rfl rfl rfl rfl rfl rfl rfl rfl (.row rfl Trs.d_length.symm) (.whole rfl rfl (.inr ⟨rfl, rfl⟩)) (by simp) rfl (by rw [Trs.d_length]; show x.2.2.length + 1 ≤ L; omega) (by rw [Trs.d_length]; show (x.2.2.length + 1) * 8 ≤ _; omega) rfl (by rw [List.length_append, Trs.d_length])) rfl ?_
     refine jnm ?_
     iterate 2 refine jst hσ rfl rfl rfl rfl rfl ?_
     refine jf [54, 52, 44, 10, 33, 32, 0, 1, 7, 8] rfl ?_
     refine AOps.heap (HS.storeBox hσ rfl rfl rfl rfl rfl rfl rfl rfl rfl rfl rfl) rfl ?_
     refine jnm ?_
     refine jf [44, 10, 33, 32, 0, 1, 7, 8] rfl ?_
     refine jn ?_
     refine AWP.region ?_
     iterate 2 refine jst hσ rfl rfl rfl rfl rfl ?_
     refine jf [1, 44, 33, 32, 0, 7, 8] rfl ?_
     refine jn ?_
     refine AWP.region ?_
     refine jst hσ rfl rfl rfl rfl rfl ?_
     first | refine jfi hσ rfl rfl rfl rfl rfl ?_ | refine jvf hσ rfl rfl rfl rfl rfl ?_
     refine jst hσ rfl rfl rfl rfl rfl ?_
     refine jf [7, 1, 44, 33, 32, 0, 8] rfl ?_
     refine jn ?_
     refine ⟨(x.1 - 1, k1, x.2.2 ++ [.node s1 a1 ks1]), ((Ent.sel [29, 52] (e' := [(0, _), (1, _), (7, _), (8, _)]) rfl rfl ⟨rfl, rfl, rfl, rfl, trivial⟩ rfl).trans (Ent.sub 52 700 rfl rfl rfl)).trans (Ent.to ⟨rfl, rfl, ?_, rfl, trivial⟩ ?_), ⟨(treeF_le hr).2, by have := (treeF_le hr).1; show k < k1; omega, ?_, ?_⟩, ?_⟩
     ·
      exact congrArg (fun z => some (eI z)) (by show (x.1 : Int) - 1 = (x.1 - 1 : Nat); omega)
     ·
      rw [Trs.d_snoc, List.length_append]; rfl
     ·
      rw [hi.2.2.1]
      obtain ⟨q, hq⟩ : ∃ q, x.1 = q + 1 := ⟨x.1 - 1, by omega⟩
      rw [hq, iterT_some hr]
      simp [Option.map_map, Function.comp_def]
     ·
      show (x.2.2 ++ [_]).length + (x.1 - 1) ≤ 2; simp; omega
     ·
      show x.1 - 1 < x.1; omega
   ·
    try simp only [jcs] at hc33
    refine AWP.exit ?_
    refine jsr ?_
    iterate 5 refine jst hσ rfl rfl rfl rfl rfl ?_
    refine jf [6, 5, 4, 33, 32, 0, 1, 7, 8] rfl ?_
    refine jn ?_
    refine AWP.ret ?_
    refine ⟨.inl rfl, _, ((Ent.to (e' := [(4, _), (5, _), (6, _)]) ⟨rfl, rfl, rfl, trivial⟩ rfl).trans (Ent.freeze (e' := [(4, _), (5, _), (6, _)]) 700 rfl (.cons rfl (.keep rfl) (.cons rfl (.keep rfl) (.cons rfl (.keep rfl) .nil))) (.cons rfl (.box (.cons (.keep rfl) (.cons (.keep rfl) (.cons (.keep rfl) (.cons (.keep rfl) (.cons (.keep rfl) (.cons (.keep rfl) (.cons (.keep rfl) (.cons (.keep rfl) (.cons (.keep rfl) (.cons (.row rfl Trs.d_length.symm) .nil))))))))))) (.skip .nil)))).trans (Ent.freeze (e' := [(4, _), (5, _), (6, _)]) 29 rfl (.cons rfl (.c (.box (cs := [.int .i64 (body.getD k default).kind, .int .i64 (body.getD k default).var, .int .i64 (body.getD k default).event, .int .i64 (body.getD k default).sum.c, ints (body.getD k default).sum.xs, .int .i64 (body.getD k default).index.c, ints (body.getD k default).index.xs, tms (body.getD k default).facts, .int .i64 k, .slc 1 (Trs.d x.2.2)]) rfl (VMs.self rfl))) (.cons rfl (.keep rfl) (.cons rfl (.keep rfl) .nil))) (.skip .nil)), _, rfl, ?_, rfl⟩
    have hx : x.1 = 0 := by omega
    rw [Int.toNat_natCast] at hc22
    rw [show treeF (n + 1) body k = some (.node (body.getD k default) k x.2.2, x.2.1) by
     unfold treeF
     rw [if_neg (by omega), if_neg (by omega), hi.2.2.1, hx]; simp [iterT]]
    rfl
theorem c157 {L : Nat} (h1 : 4096 ≤ L) (h2 : L ≤ 1073741824) {body : List Sm} : ∀ {n k : Nat}, k ≤ body.length → body.length < n + k → MC Tryz.prog L 93 [.c (.d (sms body)), eI k] [] (Plain (resT (treeF n body k)))
 | 0, k, hk, hn => by omega
 | n + 1, k, hk, hn => c157s h1 h2 hk hn (fun k' hk' hn' => c157 h1 h2 hk' hn')
end Go.Al
namespace Go.Al
open Go.Proofs
set_option linter.unusedVariables false
set_option linter.unusedSimpArgs false
set_option maxRecDepth 10000
def toF (body : List Sm) : Option (Tr × Nat) := treeF (body.length + 1) body 0
def tOP (body : List Sm) : D := if (30 : Int) < body.length then .nilp else tP (toF body)
def tOB (body : List Sm) : Bool := if (30 : Int) < body.length then false else (tB (toF body) && decide (tN (toF body) = body.length))
def validP (p : Pm) : Bool := tOB p.body && (terms p.pre 6 && terms p.post 6)

theorem c112 {L : Nat} (h1 : 4096 ≤ L) (h2 : L ≤ 1073741824) {body : List Sm} : MC Tryz.prog L 59 [.c (.d (sms body))] [] (Plain (.tup [.c (.d (tOP body)), eB (tOB body)])) := by
 have hσ := SGok (nt := 24) h1 (Nat.le_trans h2 (by decide))
 refine MC.body hσ Tryz.func59 (by kernel_rfl) rfl rfl (Nat.le_of_ble_eq_true rfl) (fun hF => ?_)
 have hl : body.length ≤ L := by simpa [As.fact, A.fact, M.fact, D.fact, Ds.fact] using hF.1.1
 refine jsr ?_
 iterate 2 refine jst hσ rfl rfl rfl rfl rfl ?_
 refine jn ?_
 refine AWP.seq ?_
 refine jsr ?_
 refine jst hσ rfl rfl rfl rfl rfl ?_
 first | refine jle hσ rfl rfl rfl rfl rfl rfl rfl rfl rfl rfl rfl ?_ | refine jst hσ rfl rfl rfl rfl rfl ?_ | refine jvf hσ rfl rfl rfl rfl rfl ?_
 refine jst hσ rfl rfl rfl rfl rfl ?_
 refine jf [9, 3, 2, 0] rfl ?_
 refine jn ?_
 refine AWP.cond hσ rfl rfl (fun hc9 => ?_) (fun hc9 => ?_)
 ·
  try simp only [jcs] at hc9
  refine jsr ?_
  iterate 2 refine jst hσ rfl rfl rfl rfl rfl ?_
  refine jn ?_
  refine AWP.ret ?_
  refine ⟨.inl rfl, _, Ent.refl, _, rfl, ?_, rfl⟩
  rw [tOP, tOB, if_pos hc9, if_pos hc9]
 ·
  try simp only [jcs] at hc9
  refine AWP.skip ?_
  refine jsr ?_
  refine jst hσ rfl rfl rfl rfl rfl ?_
  refine AOps.reset [(11, _), (3, _), (2, _), (0, _)] [] ⟨rfl, rfl, rfl, rfl, trivial⟩ rfl ?_
  refine AOps.plainD hσ rfl rfl rfl rfl (c157 (n := body.length + 1) (k := 0) h1 h2 (Nat.zero_le _) (by omega)) (VAs.self rfl) rfl rfl rfl rfl (B0 := 13000) rfl rfl ?_
  iterate 7 refine jst hσ rfl rfl rfl rfl rfl ?_
  refine jf [6, 5, 4, 3, 2, 0] rfl ?_
  refine jns ?_
  iterate 3 refine jst hσ rfl rfl rfl rfl rfl ?_
  refine AOps.reset [(18, _), (16, _), (5, _), (3, _), (2, _), (0, _)] [] ⟨rfl, rfl, rfl, rfl, rfl, rfl, trivial⟩ rfl ?_
  refine AOps.gr 4 rfl rfl rfl (fun hx => AN.step hx rfl rfl rfl (Val.of hσ rfl rfl) rfl rfl ( AN.step hx rfl rfl rfl (Val.of hσ rfl rfl) rfl rfl ( AN.step hx rfl rfl rfl (Val.lenD hσ rfl rfl rfl rfl rfl rfl rfl rfl) rfl rfl ( AN.step hx rfl rfl rfl (Val.of hσ rfl rfl) rfl rfl ( AN.nil))))) rfl rfl ?_
  first | refine AOps.step (Val.pickT hσ rfl rfl rfl rfl rfl) rfl rfl rfl ?_ | refine AOps.step (Val.pickF hσ rfl rfl rfl rfl rfl) rfl rfl rfl ?_ | refine AOps.step (Val.pickB hσ rfl rfl rfl rfl rfl) rfl rfl rfl ?_
  iterate 2 refine jst hσ rfl rfl rfl rfl rfl ?_
  refine jf [3, 2, 0] rfl ?_
  refine jn ?_
  refine AWP.ret ?_
  refine ⟨.inl rfl, _, Ent.refl, _, rfl, ?_, rfl⟩
  rw [tOP, tOB, if_neg (by omega), if_neg (by omega), ← Bool.cond_false_right]; rfl
theorem c155 {L : Nat} (h1 : 4096 ≤ L) (h2 : L ≤ 1073741824) {body : List Sm} : MC Tryz.prog L 92 [.c (.d (sms body))] [] (Plain (eB (tOB body))) := by
 refine MC.alone ?_ rfl
 have hσ := SGok (nt := 11) h1 (Nat.le_trans h2 (by decide))
 refine MC.body hσ Tryz.func92 (by kernel_rfl) rfl rfl (Nat.le_of_ble_eq_true rfl) (fun hF => ?_)
 refine jsr ?_
 refine jst hσ rfl rfl rfl rfl rfl ?_
 refine jns ?_
 refine jst hσ rfl rfl rfl rfl rfl ?_
 refine AOps.reset [(6, _), (2, _)] [] ⟨rfl, rfl, trivial⟩ rfl ?_
 refine AOps.plainD hσ rfl rfl rfl rfl (c112 h1 h2) (VAs.self rfl) rfl rfl rfl rfl (B0 := 8000) rfl rfl ?_
 iterate 5 refine jst hσ rfl rfl rfl rfl rfl ?_
 refine jf [4, 2] rfl ?_
 refine jns ?_
 iterate 2 refine jst hσ rfl rfl rfl rfl rfl ?_
 refine jf [2] rfl ?_
 refine jn ?_
 refine AWP.ret ?_
 refine ⟨.inl rfl, _, Ent.refl, _, rfl, ?_⟩
 first | rfl | skip
theorem c109 {L : Nat} (h1 : 4096 ≤ L) (h2 : L ≤ 1073741824) {p : Pm} : MC Tryz.prog L 58 [aPm p] [] (Plain (eB (validP p))) := by
 refine MC.alone ?_ rfl
 have hσ := SGok (nt := 16) h1 (Nat.le_trans h2 (by decide))
 refine MC.body hσ Tryz.func58 (by kernel_rfl) rfl rfl (Nat.le_of_ble_eq_true rfl) (fun hF => ?_)
 refine jsr ?_
 refine AOps.heap (HS.box hσ rfl rfl rfl rfl rfl rfl rfl) rfl ?_
 refine jst hσ rfl rfl rfl rfl rfl ?_
 refine jns ?_
 iterate 2 refine jst hσ rfl rfl rfl rfl rfl ?_
 refine jf [4, 2, 1, 0] rfl ?_
 refine AOps.lone hσ rfl rfl rfl rfl (c155 h1 h2) (VAs.self rfl) rfl rfl rfl rfl rfl (B0 := 6000) rfl ?_
 refine jst hσ rfl rfl rfl rfl rfl ?_
 refine jf [6, 2, 1, 0] rfl ?_
 refine AOps.gr 3 rfl rfl rfl (fun hx => AN.step hx rfl rfl rfl (Val.of hσ rfl rfl) rfl rfl ( AN.step hx rfl rfl rfl (Val.of hσ rfl rfl) rfl rfl ( AN.lone hσ hx rfl rfl rfl rfl (c125 h1 h2) (VAs.self rfl) rfl rfl rfl rfl rfl rfl rfl (B0 := 10000) rfl ( AN.nil)))) rfl rfl ?_
 first | refine AOps.step (Val.pickT hσ rfl rfl rfl rfl rfl) rfl rfl rfl ?_ | refine AOps.step (Val.pickF hσ rfl rfl rfl rfl rfl) rfl rfl rfl ?_ | refine AOps.step (Val.pickB hσ rfl rfl rfl rfl rfl) rfl rfl rfl ?_
 refine jst hσ rfl rfl rfl rfl rfl ?_
 refine jf [11, 2, 1, 0] rfl ?_
 refine AOps.gr 3 rfl rfl rfl (fun hx => AN.step hx rfl rfl rfl (Val.of hσ rfl rfl) rfl rfl ( AN.step hx rfl rfl rfl (Val.of hσ rfl rfl) rfl rfl ( AN.lone hσ hx rfl rfl rfl rfl (c125 h1 h2) (VAs.self rfl) rfl rfl rfl rfl rfl rfl rfl (B0 := 15000) rfl ( AN.nil)))) rfl rfl ?_
 first | refine AOps.step (Val.pickT hσ rfl rfl rfl rfl rfl) rfl rfl rfl ?_ | refine AOps.step (Val.pickF hσ rfl rfl rfl rfl rfl) rfl rfl rfl ?_ | refine AOps.step (Val.pickB hσ rfl rfl rfl rfl rfl) rfl rfl rfl ?_
 refine jst hσ rfl rfl rfl rfl rfl ?_
 refine jf [2, 0] rfl ?_
 refine jn ?_
 refine AWP.ret ?_
 refine ⟨.inl rfl, _, Ent.refl, _, rfl, ?_⟩
 rw [Bool.cond_false_right, Bool.cond_false_right, Bool.and_assoc]; rfl
structure RS where
  vars : List Int
  cells : List Int
  events : List Int
  fuel : Int
  steps : Int
  out : Int
abbrev rbox (e : Nat) (r : RS) : B := .box [.rs 1 0 4, .rs 2 0 8, .rs e 0 r.events.length, .d (.int .i64 r.fuel), .d (.int .i64 r.steps), .d (.int .i64 r.out)]
abbrev rH (e : Nat) (r : RS) : List (Nat × B) := [(0, rbox e r), (1, nrow r.vars), (2, nrow r.cells), (e, nrow r.events)]
def stepR (r : RS) : Bool × RS := if r.steps = r.fuel then (false, { r with out := 1 }) else (true, { r with steps := r.steps + 1 })

end Go.Al
namespace Go.Al
open Go.Proofs
set_option linter.unusedVariables false
set_option linter.unusedSimpArgs false
set_option maxRecDepth 10000
def whileW (s : Sm) (f : RS → Bool × RS) : Nat → RS → Bool × RS
  | 0, r => (false, { r with out := 1 })
  | m + 1, r => if r.steps = r.fuel then (false, { r with out := 1 }) else
    if evalT s.sum r.vars < 0 then (true, { r with steps := r.steps + 1 }) else
      if (f { r with steps := r.steps + 1 }).1 = true then whileW s f m (f { r with steps := r.steps + 1 }).2 else (false, (f { r with steps := r.steps + 1 }).2)
def leaf (s : Sm) (r : RS) : Bool × RS :=
  if s.kind = 2 then (if big (evalT s.sum r.vars) = true then (true, { r with vars := r.vars.set s.var.toNat (evalT s.sum r.vars) }) else (false, { r with out := 4 }))
  else if s.kind = 3 then (if inB 0 7 (evalT s.index r.vars) = true then (true, { r with vars := r.vars.set s.var.toNat (r.cells.getD (evalT s.index r.vars).toNat default) }) else (false, { r with out := 2 }))
  else if s.kind = 4 then (if inB 0 7 (evalT s.index r.vars) = true then (if big (evalT s.sum r.vars) = true then (true, { r with cells := r.cells.set (evalT s.index r.vars).toNat (evalT s.sum r.vars) }) else (false, { r with out := 4 })) else (false, { r with out := 2 }))
  else if s.kind = 5 then (true, { r with events := r.events ++ [s.event] })
  else if s.kind = 6 then (if evalT s.sum r.vars < 0 then (false, { r with out := 3 }) else (true, r))
  else (true, r)
def run1 : Tr → RS → Bool × RS
  | .node s a [x, y], r =>
    if s.kind = 1 then (if (run1 x r).1 = true then run1 y (run1 x r).2 else (false, (run1 x r).2)) else
      if (stepR r).1 = true then (if 0 ≤ evalT s.sum (stepR r).2.vars then run1 x (stepR r).2 else run1 y (stepR r).2) else (false, (stepR r).2)
  | .node s a [x], r => whileW s (run1 x) ((r.fuel - r.steps).toNat + 1) r
  | .node s a _, r => if (stepR r).1 = true then leaf s (stepR r).2 else (false, (stepR r).2)
structure RSok (r : RS) : Prop where
  vars : numsB r.vars 4 = true
  cells : numsB r.cells 8 = true
  lo : 0 ≤ r.steps
  hi : r.steps ≤ r.fuel
  fuel : r.fuel ≤ 2000
  events : (r.events.length : Int) ≤ r.steps
/-- A run goes on from one state to another. -/
structure RSle (r r' : RS) : Prop where
  ok : RSok r'
  fuel : r'.fuel = r.fuel
  steps : r.steps ≤ r'.steps
theorem stmt_facts {s : Sm} (h : stmtB s = true) : s.sum.term = true ∧ s.index.term = true := by
  unfold stmtB sB1 at h
  cases h1 : s.sum.term <;> cases h2 : s.index.term <;> simp [h1, h2] at h ⊢
end Go.Al
namespace Go.Al
open Go.Proofs
set_option linter.unusedVariables false
set_option linter.unusedSimpArgs false
set_option maxRecDepth 10000

mutual
/-- Each element is valid, and has the statements behind it that it needs. -/
def Tr.ok : Tr → Prop
  | .node s _ ks => stmtB s = true ∧ (ks.length : Int) = below s.kind ∧ Trs.ok ks
def Trs.ok : List Tr → Prop
  | [] => True
  | t :: r => t.ok ∧ Trs.ok r
end
theorem RSle.trans {a b c : RS} (h : RSle a b) (h' : RSle b c) : RSle a c := ⟨h'.ok, h'.fuel.trans h.fuel, Int.le_trans h.steps h'.steps⟩
theorem RSok.out {r : RS} (h : RSok r) (x : Int) : RSle r { r with out := x } := ⟨⟨h.vars, h.cells, h.lo, h.hi, h.fuel, h.events⟩, rfl, Int.le_refl _⟩
theorem below_two {k : Int} (h : below k = 2) : k = 1 ∨ k = 7 := by
  unfold below at h
  split at h
  · exact .inl ‹_›
  · split at h
    · exact .inr ‹_›
    · split at h <;> simp at h
theorem below_one {k : Int} (h : below k = 1) : k = 8 := by
  unfold below at h
  split at h
  · simp at h
  · split at h
    · simp at h
    · split at h
      · assumption
      · simp at h
end Go.Al
namespace Go.Al
open Go.Proofs
set_option linter.unusedVariables false
set_option linter.unusedSimpArgs false
set_option maxRecDepth 10000
theorem iterT_ok {f : Nat → Option (Tr × Nat)} (hf : ∀ k t k', f k = some (t, k') → t.ok) : ∀ {q k ts k'}, iterT f q k = some (ts, k') → ts.length = q ∧ Trs.ok ts
  | 0, k, ts, k', h => by simp only [iterT, Option.some.injEq, Prod.mk.injEq] at h; rw [← h.1]; exact ⟨rfl, trivial⟩
  | q + 1, k, ts, k', h => by
    cases hx : f k with
    | none => rw [iterT_none hx] at h; cases h
    | some x =>
      obtain ⟨t, k1⟩ := x
      rw [iterT_some hx] at h
      simp only [Option.map_eq_some_iff] at h
      obtain ⟨⟨ts1, k2⟩, h1, h2⟩ := h
      simp only [Prod.mk.injEq] at h2
      obtain ⟨h3, h4⟩ := iterT_ok hf h1
      rw [← h2.1]
      exact ⟨by simp [h3], hf k t k1 hx, h4⟩
theorem treeF_ok : ∀ {n body k t k'}, treeF n body k = some (t, k') → t.ok
  | 0, _, _, _, _, h => by cases h
  | n + 1, body, k, t, k', h => by
    unfold treeF at h
    split at h
    · cases h
    · split at h
      · cases h
      · rename_i hk
        simp only [Option.map_eq_some_iff] at h
        obtain ⟨⟨ts1, k2⟩, h1, h2⟩ := h
        simp only [Prod.mk.injEq] at h2
        obtain ⟨h3, h4⟩ := iterT_ok (fun k t k' h => treeF_ok h) h1
        rw [← h2.1]
        have hs : stmtB (body.getD k default) = true := by
          cases hb : stmtB (body.getD k default) with
          | true => rfl
          | false => unfold kidsF at hk; rw [hb] at hk; exact absurd (by rw [if_neg (by decide)]; decide) hk
        refine ⟨hs, ?_, h4⟩
        rw [h3]
        unfold kidsF
        rw [if_pos hs]
        have := (below_le (body.getD k default).kind).1
        omega
theorem tOB_some {body : List Sm} (h : tOB body = true) : ∃ t, toF body = some (t, body.length) ∧ t.ok ∧ tOP body = t.d := by
  unfold tOB at h
  split at h
  · cases h
  · rename_i h30
    simp only [Bool.and_eq_true, decide_eq_true_eq] at h
    obtain ⟨t, k, hk⟩ := tB_true h.1
    have h2 := h.2
    rw [hk] at h2
    simp only [Int.ofNat_inj, Int.natCast_inj] at h2
    subst h2
    exact ⟨t, hk, treeF_ok hk, by unfold tOP; rw [if_neg h30, hk]⟩
def validB (p : Pm) (s : Sx) (f : Int) : Bool := validP p && (stB s && inB 0 2000 f)
/-- The tree of a body. -/
def treeO (body : List Sm) : Tr := match toF body with | some (t, _) => t | none => .node default 0 []
def r0 (s : Sx) (f : Int) : RS := ⟨s.vars, s.cells, [], f, 0, 0⟩
end Go.Al
namespace Go.Al
open Go.Proofs
set_option linter.unusedVariables false
set_option linter.unusedSimpArgs false
set_option maxRecDepth 10000
def stepS (s : Sm) (v c : List Int) : Int × List Int × List Int :=
  if s.kind = 2 then (if big (evalT s.sum v) = true then (0, v.set s.var.toNat (evalT s.sum v), c) else (4, v, c))
  else if s.kind = 3 then (if inB 0 7 (evalT s.index v) = true then (0, v.set s.var.toNat (c.getD (evalT s.index v).toNat default), c) else (2, v, c))
  else if s.kind = 4 then (if inB 0 7 (evalT s.index v) = true then (if big (evalT s.sum v) = true then (0, v, c.set (evalT s.index v).toNat (evalT s.sum v)) else (4, v, c)) else (2, v, c))
  else if s.kind = 6 then (if evalT s.sum v < 0 then (3, v, c) else (0, v, c))
  else (0, v, c)
abbrev sbox : B := .box [.rs 1 0 4, .rs 2 0 8]
abbrev sH (v c : List Int) : List (Nat × B) := [(0, sbox), (1, nrow v), (2, nrow c)]

end Go.Al
namespace Go.Al
open Go.Proofs
set_option linter.unusedVariables false
set_option linter.unusedSimpArgs false
set_option maxRecDepth 10000
structure Rs where
  v : List Int
  c : List Int
  ev : List Int
  out : Int
  st : Int
structure Cf where
  n : Nat
  ws : List Nat
  v : List Int
  c : List Int
  ev : List Int
  st : Int
def mbody (body : List Sm) (fuel : Int) (go : List Nat → List Int → List Int → List Int → Int → Option Rs) (s : Sm) (k : Nat) (ws : List Nat) (v c ev : List Int) (st : Int) : Option Rs :=
  if s.kind = 1 then (if endR body (k + 1) < 0 then none else go ((k + 1) :: (endR body (k + 1)).toNat :: ws) v c ev st)
  else if st = fuel then some ⟨v, c, ev, 1, st⟩
  else if ¬ (stepS s v c).1 = 0 then some ⟨(stepS s v c).2.1, (stepS s v c).2.2, ev, (stepS s v c).1, st + 1⟩
  else if s.kind = 5 then go ws (stepS s v c).2.1 (stepS s v c).2.2 (ev ++ [s.event]) (st + 1)
  else if s.kind = 7 then (if 0 ≤ evalT s.sum (stepS s v c).2.1 then go ((k + 1) :: ws) (stepS s v c).2.1 (stepS s v c).2.2 ev (st + 1) else
    if endR body (k + 1) < 0 then none else go ((endR body (k + 1)).toNat :: ws) (stepS s v c).2.1 (stepS s v c).2.2 ev (st + 1))
  else if s.kind = 8 then (if 0 ≤ evalT s.sum (stepS s v c).2.1 then go ((k + 1) :: k :: ws) (stepS s v c).2.1 (stepS s v c).2.2 ev (st + 1) else go ws (stepS s v c).2.1 (stepS s v c).2.2 ev (st + 1))
  else go ws (stepS s v c).2.1 (stepS s v c).2.2 ev (st + 1)
/-- The machine with a list of what is still to be executed, the next one first. -/
def mrun (body : List Sm) (fuel : Int) : Nat → List Nat → List Int → List Int → List Int → Int → Option Rs
  | 0, _, _, _, _, _ => none
  | _ + 1, [], v, c, ev, st => some ⟨v, c, ev, 0, st⟩
  | n + 1, k :: ws, v, c, ev, st => if body.length ≤ k ∨ 100 ≤ ws.length then none else mbody body fuel (mrun body fuel n) (body.getD k default) k ws v c ev st
abbrev fI : Int → List D := fun n => [.int .i64 n]
def wI (ws : List Nat) : List Int := ws.reverse.map fun (k : Nat) => (k : Int)
end Go.Al
namespace Go.Al
open Go.Proofs
set_option linter.unusedVariables false
set_option linter.unusedSimpArgs false
set_option maxRecDepth 10000
def specB (p : Pm) (s : Sx) (f : Int) : Bool := progB p && (stB s && inB 0 2000 f)
theorem bodyB_iff {b : List Sm} (h : bodyB b = true) : 1 ≤ b.length ∧ b.length ≤ 30 ∧ b.all stmtB = true ∧ endR b 0 = b.length := by
  unfold bodyB at h; simp only [Bool.and_eq_true, decide_eq_true_eq] at h
  exact ⟨by omega, by omega, h.2.1, h.2.2⟩

end Go.Al
namespace Go.Al
open Go.Proofs
set_option linter.unusedVariables false
set_option linter.unusedSimpArgs false
set_option maxRecDepth 10000

/-! ### The tree does not hang on the fuel -/
theorem iterT_congr {f g : Nat → Option (Tr × Nat)} {k0 : Nat} (h : ∀ j, k0 ≤ j → f j = g j) (hf : ∀ k t k', f k = some (t, k') → k < k') : ∀ {q k : Nat}, k0 ≤ k → iterT f q k = iterT g q k
  | 0, _, _ => rfl
  | q + 1, k, hk => by
    cases hx : f k with
    | none => rw [iterT_none hx, iterT_none (by rw [← h k hk]; exact hx)]
    | some x =>
      obtain ⟨t, k1⟩ := x
      have := hf k t k1 hx
      rw [iterT_some hx, iterT_some (by rw [← h k hk]; exact hx), iterT_congr h hf (by omega)]
theorem treeF_out {n : Nat} {body : List Sm} {k : Nat} (h : body.length ≤ k) : treeF n body k = none := by
  cases n with
  | zero => rfl
  | succ n => unfold treeF; rw [if_pos h]
theorem treeF_fuel : ∀ {n m : Nat} {body : List Sm} {k : Nat}, body.length < n + k → body.length < m + k → treeF n body k = treeF m body k
  | 0, m, body, k, h1, h2 => by rw [treeF_out (by omega), treeF_out (by omega)]
  | n + 1, 0, body, k, h1, h2 => by rw [treeF_out (by omega), treeF_out (by omega)]
  | n + 1, m + 1, body, k, h1, h2 => by
    unfold treeF
    rw [iterT_congr (f := treeF n body) (g := treeF m body) (k0 := k + 1) (fun j hj => treeF_fuel (by omega) (by omega)) (fun k t k' h => (treeF_le h).1) (Nat.le_refl _)]
def treeAt (body : List Sm) (k : Nat) : Option (Tr × Nat) := treeF (body.length + 1) body k
theorem treeAt_eq {body : List Sm} {k : Nat} : treeAt body k = if body.length ≤ k then none else if kidsF (body.getD k default) < 0 then none else (iterT (treeAt body) (kidsF (body.getD k default)).toNat (k + 1)).map fun r => (.node (body.getD k default) k r.1, r.2) := by
  unfold treeAt
  show (if body.length ≤ k then none else if kidsF (body.getD k default) < 0 then none else (iterT (treeF body.length body) (kidsF (body.getD k default)).toNat (k + 1)).map fun r => (Tr.node (body.getD k default) k r.1, r.2)) = _
  rw [iterT_congr (f := treeF body.length body) (g := treeF (body.length + 1) body) (k0 := k + 1) (fun j hj => treeF_fuel (by omega) (by omega)) (fun k t k' h => (treeF_le h).1) (Nat.le_refl _)]
theorem treeAt_le {body : List Sm} {k k' : Nat} {t : Tr} (h : treeAt body k = some (t, k')) : k < k' ∧ k' ≤ body.length := treeF_le h
theorem node_inv {body : List Sm} {k k' : Nat} {s : Sm} {a : Int} {ks : List Tr} (h : treeAt body k = some (.node s a ks, k')) :
    k < body.length ∧ s = body.getD k default ∧ stmtB s = true ∧ iterT (treeAt body) ks.length (k + 1) = some (ks, k') ∧ (ks.length : Int) = below s.kind := by
  rw [treeAt_eq] at h
  split at h
  · cases h
  · split at h
    · cases h
    · rename_i h1 h2
      simp only [Option.map_eq_some_iff] at h
      obtain ⟨⟨ts, k2⟩, h3, h4⟩ := h
      simp only [Prod.mk.injEq, Tr.node.injEq] at h4
      obtain ⟨⟨h5, _, h6⟩, h7⟩ := h4
      subst h6; subst h7; subst h5
      have h8 := (iterT_ok (fun k t k' h => treeF_ok h) h3).1
      have hs : stmtB (body.getD k default) = true := by
        cases hb : stmtB (body.getD k default) with
        | true => rfl
        | false => unfold kidsF at h2; rw [hb] at h2; exact absurd (by rw [if_neg (by decide)]; decide) h2
      refine ⟨by omega, rfl, hs, by rw [h8]; exact h3, ?_⟩
      rw [h8]
      unfold kidsF
      rw [if_pos hs]
      have := (below_le (body.getD k default).kind).1
      omega

/-! ### The end of a statement -/
theorem endL_step {body : List Sm} {k : Nat} (hk : k < body.length) {n : Int} (hn : 0 < n) : endL (body.drop k) n = (endL (body.drop (k + 1)) (n - 1 + below (body.getD k default).kind)).map (· + 1) := by
  rw [endL_pos hn hk, show n + (below (body.getD k default).kind - 1) = n - 1 + below (body.getD k default).kind by omega]
theorem endL_iter {body : List Sm} {f : Nat → Option (Tr × Nat)} (hf : ∀ k t k', f k = some (t, k') → k < k' ∧ ∀ n : Int, 0 ≤ n → endL (body.drop k) (n + 1) = (endL (body.drop k') n).map (· + (k' - k))) :
    ∀ {q k : Nat} {ts : List Tr} {k' : Nat}, iterT f q k = some (ts, k') → k ≤ k' ∧ ∀ n : Int, 0 ≤ n → endL (body.drop k) (n + q) = (endL (body.drop k') n).map (· + (k' - k))
  | 0, k, ts, k', h => by
    simp only [iterT, Option.some.injEq, Prod.mk.injEq] at h
    rw [← h.2]
    refine ⟨Nat.le_refl _, fun n hn => ?_⟩
    rw [show n + ((0 : Nat) : Int) = n by omega]
    simp
  | q + 1, k, ts, k', h => by
    cases hx : f k with
    | none => rw [iterT_none hx] at h; cases h
    | some x =>
      obtain ⟨t, k1⟩ := x
      rw [iterT_some hx] at h
      simp only [Option.map_eq_some_iff] at h
      obtain ⟨⟨ts1, k2⟩, h1, h2⟩ := h
      simp only [Prod.mk.injEq] at h2
      obtain ⟨_, rfl⟩ := h2
      obtain ⟨h3, h4⟩ := hf k t k1 hx
      obtain ⟨h5, h6⟩ := endL_iter hf h1
      refine ⟨by omega, fun n hn => ?_⟩
      rw [show n + ((q + 1 : Nat) : Int) = (n + q) + 1 by omega, h4 _ (by omega), h6 n hn, Option.map_map]
      exact congrArg (fun g => Option.map g _) (funext fun x => by simp; omega)
theorem endL_tree {body : List Sm} : ∀ {n k : Nat} {t : Tr} {k' : Nat}, treeF n body k = some (t, k') → k < k' ∧ ∀ m : Int, 0 ≤ m → endL (body.drop k) (m + 1) = (endL (body.drop k') m).map (· + (k' - k))
  | 0, _, _, _, h => by cases h
  | n + 1, k, t, k', h => by
    unfold treeF at h
    split at h
    · cases h
    · split at h
      · cases h
      · rename_i h1 h2
        simp only [Option.map_eq_some_iff] at h
        obtain ⟨⟨ts, k2⟩, h3, h4⟩ := h
        simp only [Prod.mk.injEq] at h4
        obtain ⟨_, rfl⟩ := h4
        obtain ⟨h5, h6⟩ := endL_iter (body := body) (fun k t k' h => endL_tree h) h3
        have hs : stmtB (body.getD k default) = true := by
          cases hb : stmtB (body.getD k default) with
          | true => rfl
          | false => unfold kidsF at h2; rw [hb] at h2; exact absurd (by rw [if_neg (by decide)]; decide) h2
        have hkf : kidsF (body.getD k default) = below (body.getD k default).kind := by unfold kidsF; rw [if_pos hs]
        have hb := (below_le (body.getD k default).kind).1
        refine ⟨by omega, fun m hm => ?_⟩
        have h7 := h6 m hm
        rw [hkf] at h7
        rw [endL_step (by omega) (by omega), show m + 1 - 1 + below (body.getD k default).kind = m + ((below (body.getD k default).kind).toNat : Int) by omega, h7, Option.map_map]
        exact congrArg (fun g => Option.map g _) (funext fun x => by simp; omega)
theorem endR_tree {body : List Sm} {k k' : Nat} {t : Tr} (h : treeAt body k = some (t, k')) : endR body k = k' := by
  obtain ⟨h1, h2⟩ := endL_tree h
  have h3 := h2 0 (Int.le_refl _)
  unfold endR
  rw [show (1 : Int) = 0 + 1 from rfl, h3, endL_neg (Int.le_refl _)]
  show (k : Int) + ((0 + (k' - k) : Nat) : Int) = k'
  omega
/-- The elements of a tree are valid. -/
theorem tree_all {body : List Sm} : ∀ {n k : Nat} {t : Tr} {k' : Nat}, treeF n body k = some (t, k') → ∀ j, k ≤ j → j < k' → stmtB (body.getD j default) = true
  | 0, _, _, _, h => by cases h
  | n + 1, k, t, k', h => by
    unfold treeF at h
    split at h
    · cases h
    · split at h
      · cases h
      · rename_i h1 h2
        simp only [Option.map_eq_some_iff] at h
        obtain ⟨⟨ts, k2⟩, h3, h4⟩ := h
        simp only [Prod.mk.injEq] at h4
        obtain ⟨_, rfl⟩ := h4
        have hs : stmtB (body.getD k default) = true := by
          cases hb : stmtB (body.getD k default) with
          | true => rfl
          | false => unfold kidsF at h2; rw [hb] at h2; exact absurd (by rw [if_neg (by decide)]; decide) h2
        have key : ∀ {q k : Nat} {ts : List Tr} {k' : Nat}, iterT (treeF n body) q k = some (ts, k') → ∀ j, k ≤ j → j < k' → stmtB (body.getD j default) = true := by
          intro q
          induction q with
          | zero => intro k ts k' h j h1 h2; simp only [iterT, Option.some.injEq, Prod.mk.injEq] at h; omega
          | succ q ih =>
            intro k ts k' h j h1 h2
            cases hx : treeF n body k with
            | none => rw [iterT_none hx] at h; cases h
            | some x =>
              obtain ⟨t, k1⟩ := x
              rw [iterT_some hx] at h
              simp only [Option.map_eq_some_iff] at h
              obtain ⟨⟨ts1, k2⟩, h3, h4⟩ := h
              simp only [Prod.mk.injEq] at h4
              obtain ⟨_, rfl⟩ := h4
              by_cases hj : j < k1
              · exact tree_all hx j h1 hj
              · exact ih h3 j (by omega) h2
        intro j hj1 hj2
        by_cases e : j = k
        · rw [e]; exact hs
        · exact key h3 j (by omega) hj2
theorem iterT_add {f : Nat → Option (Tr × Nat)} : ∀ {a b k : Nat} {ts : List Tr} {k' : Nat}, iterT f (a + b) k = some (ts, k') → ∃ ts1 k1 ts2, iterT f a k = some (ts1, k1) ∧ iterT f b k1 = some (ts2, k')
  | 0, b, k, ts, k', h => ⟨[], k, ts, rfl, by rwa [Nat.zero_add] at h⟩
  | a + 1, b, k, ts, k', h => by
    rw [show a + 1 + b = (a + b) + 1 by omega] at h
    cases hx : f k with
    | none => rw [iterT_none hx] at h; cases h
    | some x =>
      obtain ⟨t, k1⟩ := x
      rw [iterT_some hx] at h
      simp only [Option.map_eq_some_iff] at h
      obtain ⟨⟨ts1, k2⟩, h3, h4⟩ := h
      simp only [Prod.mk.injEq] at h4
      obtain ⟨_, rfl⟩ := h4
      obtain ⟨u1, k3, u2, h5, h6⟩ := iterT_add h3
      exact ⟨t :: u1, k3, u2, by rw [iterT_some hx, h5]; rfl, h6⟩
theorem tree_of_end {body : List Sm} (hall : ∀ j, j < body.length → stmtB (body.getD j default) = true) : ∀ (d : Nat) {k q m : Nat}, body.length ≤ k + d → endL (body.drop k) q = some m → ∃ ts, iterT (treeAt body) q k = some (ts, k + m)
  | d, k, 0, m, hd, h => by
    rw [show ((0 : Nat) : Int) = 0 from rfl, endL_neg (Int.le_refl _)] at h
    obtain rfl := Option.some.inj h
    exact ⟨[], rfl⟩
  | 0, k, q + 1, m, hd, h => by
    rw [List.drop_of_length_le (by omega), endL_nil (by omega)] at h; cases h
  | d + 1, k, q + 1, m, hd, h => by
    by_cases hk : k < body.length
    · rw [endL_step hk (by omega)] at h
      have hb := below_le (body.getD k default).kind
      rw [show ((q + 1 : Nat) : Int) - 1 + below (body.getD k default).kind = (((below (body.getD k default).kind).toNat + q : Nat) : Int) by omega] at h
      simp only [Option.map_eq_some_iff] at h
      obtain ⟨m', h1, rfl⟩ := h
      obtain ⟨ts, h2⟩ := tree_of_end hall d (by omega) h1
      obtain ⟨ts1, k1, ts2, h3, h4⟩ := iterT_add h2
      have hkf : kidsF (body.getD k default) = below (body.getD k default).kind := by unfold kidsF; rw [if_pos (hall k hk)]
      have h5 : treeAt body k = some (.node (body.getD k default) k ts1, k1) := by
        rw [treeAt_eq, if_neg (by omega), if_neg (by omega), hkf, h3]; rfl
      exact ⟨.node (body.getD k default) k ts1 :: ts2, by rw [iterT_some h5, h4, show k + (m' + 1) = k + 1 + m' by omega]; rfl⟩
    · rw [List.drop_of_length_le (by omega), endL_nil (by omega)] at h; cases h
theorem all_iff {body : List Sm} : body.all stmtB = true ↔ ∀ j, j < body.length → stmtB (body.getD j default) = true := by
  rw [List.all_eq_true]
  constructor
  · intro h j hj; rw [getD_lt hj]; exact h _ (List.getElem_mem hj)
  · intro h x hx
    obtain ⟨j, hj, rfl⟩ := List.mem_iff_getElem.1 hx
    have := h j hj
    rwa [getD_lt hj] at this
theorem body_eq (body : List Sm) : bodyB body = tOB body := by
  by_cases h30 : (30 : Int) < body.length
  · unfold tOB bodyB
    rw [if_pos h30, decide_eq_false (show ¬ (body.length : Int) ≤ 30 by omega), Bool.and_false, Bool.false_and]
  · rw [Bool.eq_iff_iff]
    constructor
    · intro h
      obtain ⟨h1, h2, h3, h4⟩ := bodyB_iff h
      have h5 : endL (body.drop 0) ((1 : Nat) : Int) = some body.length := by
        unfold endR at h4
        cases hx : endL (body.drop 0) ((1 : Nat) : Int) with
        | none => rw [show ((1 : Int)) = ((1 : Nat) : Int) from rfl, hx] at h4; have h9 : (-1 : Int) = body.length := h4; omega
        | some n =>
          rw [show ((1 : Int)) = ((1 : Nat) : Int) from rfl, hx] at h4
          have : n = body.length := by simp at h4; omega
          rw [this]
      obtain ⟨ts, h6⟩ := tree_of_end (all_iff.1 h3) body.length (by omega) h5
      cases hx : treeAt body 0 with
      | none => rw [iterT_none hx] at h6; cases h6
      | some x =>
        obtain ⟨t, k1⟩ := x
        rw [iterT_some hx] at h6
        simp only [iterT, Option.map_some, Option.some.injEq, Prod.mk.injEq] at h6
        unfold tOB
        rw [if_neg h30, show toF body = some (t, k1) from hx]
        show (true && decide ((k1 : Int) = body.length)) = true
        rw [decide_eq_true (by omega)]; rfl
    · intro h
      obtain ⟨t, h1, h2, h3⟩ := tOB_some h
      have h4 : treeAt body 0 = some (t, body.length) := h1
      have h5 := endR_tree h4
      have h6 := (treeAt_le h4).1
      unfold bodyB
      rw [decide_eq_true (show (1 : Int) ≤ body.length by omega), decide_eq_true (show (body.length : Int) ≤ 30 by omega), all_iff.2 (fun j hj => tree_all h4 j (Nat.zero_le _) hj), decide_eq_true h5]
      rfl
end Go.Al
