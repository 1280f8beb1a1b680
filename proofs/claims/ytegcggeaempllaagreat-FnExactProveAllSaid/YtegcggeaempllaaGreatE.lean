/- Contracts of the reference's functions for terms and proofs. -/
import Derived.Test.YtegcggeaempllaaGreatD
namespace Go.Al
open Go.Proofs
set_option linter.unusedVariables false
set_option linter.unusedSimpArgs false
set_option maxRecDepth 10000
def Tm.term (t : Tm) : Bool := t.ok && decide ((t.xs.length : Int) ≤ 4)
def terms (ts : List Tm) (n : Int) : Bool := ts.all Tm.term && decide ((ts.length : Int) ≤ n)
def below (k : Int) : Int := if k = 1 then 2 else if k = 7 then 2 else if k = 8 then 1 else 0
/-- How many elements a statement has that needs so many parts. -/
def endL : List Sm → Int → Option Nat
  | [], need => if need ≤ 0 then some 0 else none
  | s :: r, need => if need ≤ 0 then some 0 else (endL r (need + (below s.kind - 1))).map (· + 1)
def endR (body : List Sm) (k : Nat) : Int := match endL (body.drop k) 1 with
  | some n => k + n
  | none => -1
def Tm.zero (t : Tm) : Bool := decide (t.c = 0) && decide ((t.xs.length : Int) = 0)

def sSum (s : Sm) : Bool := bif bif bif bif decide (s.kind = 2) then true else decide (s.kind = 4) then true else decide (s.kind = 6) then true else decide (s.kind = 7) then true else decide (s.kind = 8)
def sIdx (s : Sm) : Bool := bif decide (s.kind = 3) then true else decide (s.kind = 4)
def sNam (s : Sm) : Bool := bif decide (s.kind = 2) then true else decide (s.kind = 3)
def sB1 (s : Sm) : Bool := bif bif bif !(decide (0 ≤ s.kind) && decide (s.kind ≤ 8)) then true else !s.sum.term then true else !s.index.term then true else !terms s.facts 6
def sB2 (s : Sm) : Bool := bif bif bif !sSum s then !s.sum.zero else false then true else bif !sIdx s then !s.index.zero else false then true else bif !decide (s.kind = 8) then decide ((0 : Int) < s.facts.length) else false
def sB3 (s : Sm) : Bool := bif bif sNam s then !(decide (0 ≤ s.var) && decide (s.var ≤ 3)) else false then true else bif !sNam s then !decide (s.var = 0) else false
/-- The fields of an element are valid. -/
def stmtB (s : Sm) : Bool := bif sB1 s then false else bif sB2 s then false else bif sB3 s then false else bif decide (s.kind = 5) then (decide (0 ≤ s.event) && decide (s.event ≤ 3)) else decide (s.event = 0)
def bodyB (b : List Sm) : Bool := (decide ((1 : Int) ≤ b.length) && decide ((b.length : Int) ≤ 30)) && (b.all stmtB && decide (endR b 0 = b.length))
def progB (p : Pm) : Bool := terms p.pre 6 && (bodyB p.body && terms p.post 6)
def big (x : Int) : Bool := decide (-1000000000 ≤ x) && decide (x ≤ 1000000000)
def numsB (xs : List Int) (n : Int) : Bool := xs.all big && decide ((xs.length : Int) = n)
def stB (s : Sx) : Bool := numsB s.vars 4 && numsB s.cells 8
def dot : List Int → List Int → Int
  | x :: xs, y :: ys => x * y + dot xs ys
  | _, _ => 0
def evalT (t : Tm) (vars : List Int) : Int := t.c + dot t.xs vars
theorem num_iff {x : Int} : num x = true ↔ -1000000 ≤ x ∧ x ≤ 1000000 := by simp [num]
end Go.Al
namespace Go.Al
open Go.Proofs
set_option linter.unusedVariables false
set_option linter.unusedSimpArgs false
set_option maxRecDepth 10000
abbrev aTm' (t : Tm) : A := .agg (t.cells.map .d)
def inB (lo hi x : Int) : Bool := decide (lo ≤ x) && decide (x ≤ hi)

theorem c111 {L : Nat} (h1 : 4096 ≤ L) (h2 : L ≤ 1073741824) {x lo hi : Int} : MC Tryz.prog L 37 [eI x, eI lo, eI hi] [] (Plain (eB (inB lo hi x))) := by
 refine MC.alone ?_ rfl
 have hσ := SGok (nt := 15) h1 (Nat.le_trans h2 (by decide))
 refine MC.body hσ Tryz.func37 (by kernel_rfl) rfl rfl (Nat.le_of_ble_eq_true rfl) (fun hF => ?_)
 refine jsr ?_
 refine jst hσ rfl rfl rfl rfl rfl ?_
 refine jns ?_
 iterate 4 refine jst hσ rfl rfl rfl rfl rfl ?_
 refine AOps.gr 3 rfl rfl rfl (fun hx => AN.step hx rfl rfl rfl (Val.of hσ rfl rfl) rfl rfl ( AN.step hx rfl rfl rfl (Val.of hσ rfl rfl) rfl rfl ( AN.step hx rfl rfl rfl (Val.of hσ rfl rfl) rfl rfl ( AN.nil)))) rfl rfl ?_
 first | refine AOps.step (Val.pickT hσ rfl rfl rfl rfl rfl) rfl rfl rfl ?_ | refine AOps.step (Val.pickF hσ rfl rfl rfl rfl rfl) rfl rfl rfl ?_ | refine AOps.step (Val.pickB hσ rfl rfl rfl rfl rfl) rfl rfl rfl ?_
 refine jst hσ rfl rfl rfl rfl rfl ?_
 refine jn ?_
 refine AWP.ret ?_
 refine ⟨.inl rfl, _, Ent.refl, _, rfl, ?_⟩
 rw [Bool.cond_false_right]; rfl
theorem c156 {L : Nat} (h1 : 4096 ≤ L) (h2 : L ≤ 1073741824) {xs : List Int} {lo hi : Int} : MC Tryz.prog L 77 [aints xs, eI lo, eI hi] [] (Plain (eB (xs.all (inB lo hi)))) := by
 refine MC.alone ?_ rfl
 have hσ := SGok (nt := 21) h1 (Nat.le_trans h2 (by decide))
 refine MC.body hσ Tryz.func77 (by kernel_rfl) rfl rfl (Nat.le_of_ble_eq_true rfl) (fun hF => ?_)
 have hl : xs.length ≤ L := by simpa [As.fact, A.fact, M.fact, D.fact, Ds.fact] using hF.1.1
 refine jsr ?_
 refine jst hσ rfl rfl rfl rfl rfl ?_
 refine jn ?_
 refine AWP.seq ?_
 refine jsr ?_
 refine jst hσ rfl rfl rfl rfl rfl ?_
 first | refine jle hσ rfl rfl rfl rfl rfl rfl rfl rfl rfl rfl rfl ?_ | refine jst hσ rfl rfl rfl rfl rfl ?_ | refine jvf hσ rfl rfl rfl rfl rfl ?_
 refine jst hσ rfl rfl rfl rfl rfl ?_
 refine jn ?_
 refine AWP.block ?_
 refine AWP.loopP (X := Nat) (fun i => ⟨[(1, eI lo), (2, eI hi), (9, aints xs), (10, eI xs.length), (11, eI i)], []⟩) (fun i => i ≤ xs.length ∧ ∀ j (h : j < xs.length), j < i → inB lo hi xs[j] = true) (fun i => xs.length - i) 0 (Ent.env ⟨rfl, rfl, rfl, rfl, rfl, trivial⟩) ?_ (fun i hi => ?_)
 ·
  exact ⟨Nat.zero_le _, fun j h hj => absurd hj (Nat.not_lt_zero j)⟩
 refine jsr ?_
 refine jst hσ rfl rfl rfl rfl rfl ?_
 refine jn ?_
 refine AWP.seq ?_
 refine AWP.cond hσ rfl rfl (fun hc12 => ?_) (fun hc12 => ?_)
 ·
  try simp only [jcs] at hc12
  refine AWP.skip ?_
  refine AWP.seq ?_
  refine AWP.block ?_
  refine jsr ?_
  first | refine jix hσ rfl rfl rfl rfl rfl rfl rfl rfl rfl rfl rfl ?_ | refine jvf hσ rfl rfl rfl rfl rfl ?_
  iterate 2 refine jst hσ rfl rfl rfl rfl rfl ?_
  refine jns ?_
  iterate 3 refine jst hσ rfl rfl rfl rfl rfl ?_
  refine AOps.lone hσ rfl rfl rfl rfl (c111 h1 h2) (VAs.self rfl) rfl rfl rfl rfl rfl (B0 := 19000) rfl ?_
  refine jst hσ rfl rfl rfl rfl rfl ?_
  refine jn ?_
  refine AWP.cond hσ rfl rfl (fun hc19 => ?_) (fun hc19 => ?_)
  ·
   try simp only [jcs] at hc19
   refine jsr ?_
   refine jst hσ rfl rfl rfl rfl rfl ?_
   refine jn ?_
   refine AWP.ret ?_
   refine ⟨.inl rfl, _, Ent.refl, _, rfl, ?_⟩
   rw [Int.toNat_natCast, getD_lt (by omega)] at hc19
   rw [all_not i (by omega) hc19]
  ·
   try simp only [jcs] at hc19
   refine AWP.skip ?_
   refine AWP.region ?_
   first | refine jfi hσ rfl rfl rfl rfl rfl ?_ | refine jvf hσ rfl rfl rfl rfl rfl ?_
   refine jst hσ rfl rfl rfl rfl rfl ?_
   refine jn ?_
   refine ⟨i + 1, Ent.env ⟨rfl, rfl, rfl, rfl, rfl, trivial⟩, ⟨by omega, fun j h hj => ?_⟩, by omega⟩
   by_cases e : j = i
   ·
    subst e; rw [Int.toNat_natCast, getD_lt h] at hc19; exact hc19
   ·
    exact hi.2 j h (by omega)
 ·
  try simp only [jcs] at hc12
  refine AWP.exit ?_
  refine jsr ?_
  refine jst hσ rfl rfl rfl rfl rfl ?_
  refine jn ?_
  refine AWP.ret ?_
  refine ⟨.inl rfl, _, Ent.refl, _, rfl, ?_⟩
  rw [all_of (fun j hj => hi.2 j hj (by omega))]
theorem c176 {L : Nat} (h1 : 4096 ≤ L) (h2 : L ≤ 1073741824) {x : Int} : MC Tryz.prog L 76 [eI x] [] (Plain (eB (num x))) := by
 refine MC.alone ?_ rfl
 have hσ := SGok (nt := 5) h1 (Nat.le_trans h2 (by decide))
 refine MC.body hσ Tryz.func76 (by kernel_rfl) rfl rfl (Nat.le_of_ble_eq_true rfl) (fun hF => ?_)
 refine jsr ?_
 refine jst hσ rfl rfl rfl rfl rfl ?_
 refine jns ?_
 refine jst hσ rfl rfl rfl rfl rfl ?_
 refine AOps.lone hσ rfl rfl rfl rfl (c111 h1 h2) (VAs.self rfl) rfl rfl rfl rfl rfl (B0 := 5000) rfl ?_
 refine jst hσ rfl rfl rfl rfl rfl ?_
 refine jn ?_
 refine AWP.ret ?_
 refine ⟨.inl rfl, _, Ent.refl, _, rfl, ?_⟩
 first | rfl | skip
theorem validEq (t : Tm) : (bif bif bif decide ((t.xs.length : Int) ≤ 10) then num t.c else false then t.xs.all num else false then bif decide ((t.xs.length : Int) = 0) then true else !decide (t.xs.getD ((t.xs.length : Int) - 1).toNat default = 0) else false) = t.ok := by
  unfold Tm.ok
  cases num t.c <;> cases t.xs.all num <;> simp
  by_cases h0 : t.xs = []
  · simp [h0]
  · have h1 : 0 < t.xs.length := List.length_pos_iff.2 h0
    by_cases h2 : (t.xs.length : Int) ≤ 10
    · have h3 : ¬ (10 : Int) < t.xs.length := by omega
      simp [h0, h1, h2, h3]
    · have h3 : (10 : Int) < t.xs.length := by omega
      simp [h2, h3]
theorem c185 {L : Nat} (h1 : 4096 ≤ L) (h2 : L ≤ 1073741824) {t : Tm} : MC Tryz.prog L 57 [aTm' t] [] (Plain (eB t.ok)) := by
 refine MC.alone ?_ rfl
 have hσ := SGok (nt := 32) h1 (Nat.le_trans h2 (by decide))
 refine MC.body hσ Tryz.func57 (by kernel_rfl) rfl rfl (Nat.le_of_ble_eq_true rfl) (fun hF => ?_)
 have hl : t.xs.length ≤ L := by simpa [As.fact, A.fact, M.fact, Ms.fact, D.fact, Ds.fact] using hF.1.2.1.1
 refine jsr ?_
 refine AOps.heap (HS.box hσ rfl rfl rfl rfl rfl rfl rfl) rfl ?_
 refine jst hσ rfl rfl rfl rfl rfl ?_
 refine jns ?_
 iterate 2 refine jst hσ rfl rfl rfl rfl rfl ?_
 first | refine jle hσ rfl rfl rfl rfl rfl rfl rfl rfl rfl rfl rfl ?_ | refine jst hσ rfl rfl rfl rfl rfl ?_ | refine AOps.step (Val.vif hσ rfl rfl (by first | omega | (simp only [List.length_map, beq_iff_eq, decide_eq_true_eq, decide_eq_false_iff_not, Bool.not_eq_true', Bool.not_eq_false', Bool.not_true, Bool.not_false, Int.not_lt, Int.not_le] at *; omega))) rfl rfl rfl ?_
 refine jst hσ rfl rfl rfl rfl rfl ?_
 refine jf4 3 2 1 0 rfl rfl rfl rfl ?_
 refine jns ?_
 iterate 3 refine jst hσ rfl rfl rfl rfl rfl ?_
 refine jf5 9 3 2 1 0 rfl rfl rfl rfl rfl ?_
 refine AOps.gr 3 rfl rfl rfl (fun hx => AN.step hx rfl rfl rfl (Val.of hσ rfl rfl) rfl rfl ( AN.step hx rfl rfl rfl (Val.of hσ rfl rfl) rfl rfl ( AN.lone hσ hx rfl rfl rfl rfl (c176 h1 h2) (VAs.self rfl) rfl rfl rfl rfl rfl rfl rfl (B0 := 13000) rfl ( AN.nil)))) rfl rfl ?_
 first | refine AOps.step (Val.pickT hσ rfl rfl rfl rfl rfl) rfl rfl rfl ?_ | refine AOps.step (Val.pickF hσ rfl rfl rfl rfl rfl) rfl rfl rfl ?_ | refine AOps.step (Val.pickB hσ rfl rfl rfl rfl rfl) rfl rfl rfl ?_
 refine jst hσ rfl rfl rfl rfl rfl ?_
 refine jf5 14 3 2 1 0 rfl rfl rfl rfl rfl ?_
 refine AOps.gr 3 rfl rfl rfl (fun hx => AN.step hx rfl rfl rfl (Val.of hσ rfl rfl) rfl rfl ( AN.step hx rfl rfl rfl (Val.of hσ rfl rfl) rfl rfl ( AN.lone hσ hx rfl rfl rfl rfl (c156 h1 h2) (VAs.self rfl) rfl rfl rfl rfl rfl rfl rfl (B0 := 18000) rfl ( AN.nil)))) rfl rfl ?_
 first | refine AOps.step (Val.pickT hσ rfl rfl rfl rfl rfl) rfl rfl rfl ?_ | refine AOps.step (Val.pickF hσ rfl rfl rfl rfl rfl) rfl rfl rfl ?_ | refine AOps.step (Val.pickB hσ rfl rfl rfl rfl rfl) rfl rfl rfl ?_
 refine jst hσ rfl rfl rfl rfl rfl ?_
 refine jf5 19 3 2 1 0 rfl rfl rfl rfl rfl ?_
 refine AOps.gr 11 rfl rfl rfl (fun hx => AN.step hx rfl rfl rfl (Val.of hσ rfl rfl) rfl rfl ( AN.step hx rfl rfl rfl (Val.of hσ rfl rfl) rfl rfl ( AN.step hx rfl rfl rfl (Val.of hσ rfl rfl) rfl rfl ( AN.grp 7 rfl rfl rfl rfl (fun hx' => AN.step hx' rfl rfl rfl (Val.of hσ rfl rfl) rfl rfl ( AN.step hx' rfl rfl rfl (Val.of hσ rfl rfl) rfl rfl ( AN.step hx' rfl rfl rfl (Val.of hσ rfl rfl) rfl rfl ( AN.step hx' rfl rfl rfl (Val.fits64 hσ rfl rfl (by first | omega | (simp only [List.length_map, beq_iff_eq, decide_eq_true_eq, decide_eq_false_iff_not, Bool.not_eq_true', Bool.not_eq_false', Bool.not_true, Bool.not_false, Int.not_lt, Int.not_le] at *; omega)) (by first | omega | (simp only [List.length_map, beq_iff_eq, decide_eq_true_eq, decide_eq_false_iff_not, Bool.not_eq_true', Bool.not_eq_false', Bool.not_true, Bool.not_false, Int.not_lt, Int.not_le] at *; omega))) rfl rfl ( AN.step hx' rfl rfl rfl (Val.indexD hσ rfl rfl rfl rfl rfl rfl rfl rfl (by first | omega | (simp only [List.length_map, beq_iff_eq, decide_eq_true_eq, decide_eq_false_iff_not, Bool.not_eq_true', Bool.not_eq_false', Bool.not_true, Bool.not_false, Int.not_lt, Int.not_le] at *; omega)) (idx_get (by first | omega | (simp only [List.length_map, beq_iff_eq, decide_eq_true_eq, decide_eq_false_iff_not, Bool.not_eq_true', Bool.not_eq_false', Bool.not_true, Bool.not_false, Int.not_lt, Int.not_le] at *; omega)) (by first | omega | (simp only [List.length_map, beq_iff_eq, decide_eq_true_eq, decide_eq_false_iff_not, Bool.not_eq_true', Bool.not_eq_false', Bool.not_true, Bool.not_false, Int.not_lt, Int.not_le] at *; omega)))) rfl rfl ( AN.step hx' rfl rfl rfl (Val.of hσ rfl rfl) rfl rfl ( AN.step hx' rfl rfl rfl (Val.of hσ rfl rfl) rfl rfl ( AN.nil)))))))) rfl rfl ( AN.step hx rfl rfl rfl (Val.pickF hσ rfl rfl rfl rfl rfl) rfl rfl ( AN.nil)))))) rfl rfl ?_
 first | refine AOps.step (Val.pickT hσ rfl rfl rfl rfl rfl) rfl rfl rfl ?_ | refine AOps.step (Val.pickF hσ rfl rfl rfl rfl rfl) rfl rfl rfl ?_ | refine AOps.step (Val.pickB hσ rfl rfl rfl rfl rfl) rfl rfl rfl ?_
 refine jst hσ rfl rfl rfl rfl rfl ?_
 refine jf3 2 1 0 rfl rfl rfl ?_
 refine jn ?_
 refine AWP.ret ?_
 refine ⟨.inl rfl, _, Ent.refl, _, rfl, ?_⟩
 exact congrArg eB (validEq t)
def fIdx (ts : List Tm) : Int := if ts.all Tm.term = true then -1 else (ts.findIdx fun t => !t.term : Nat)
end Go.Al
namespace Go.Al
open Go.Proofs
set_option linter.unusedVariables false
set_option linter.unusedSimpArgs false
set_option maxRecDepth 10000
structure Nd where
  kind : Int
  fact : Int
  term : Tm
  mul : List Int
  deriving Inhabited, DecidableEq
structure Sq where
  facts : List Tm
  goal : Tm
  deriving Inhabited, DecidableEq
abbrev Nd.cells (n : Nd) : List D := [.int .i64 n.kind, .int .i64 n.fact, .int .i64 n.term.c, ints n.term.xs, ints n.mul]
abbrev Sq.cells (s : Sq) : List D := [tms s.facts, .int .i64 s.goal.c, ints s.goal.xs]
abbrev aNd (n : Nd) : A := .agg (n.cells.map .d)
abbrev aSq (s : Sq) : A := .agg (s.cells.map .d)
abbrev nds (ns : List Nd) : D := .slc 5 (ns.map Nd.cells)
abbrev ands (ns : List Nd) : A := .c (.d (nds ns))
abbrev ndrow (ns : List Nd) : B := .row true 5 (ns.map Nd.cells)
def Nd.size (n : Nd) : Nat := n.term.size + n.mul.length
def Sq.size (s : Sq) : Nat := szs Tm.size s.facts + s.goal.size
abbrev mN : Int → Nd → Nd := fun k n => ⟨k, k + 1, ⟨k + 1 + 1, markL mI oneI (k + 1 + 1 + 1) n.term.xs⟩, markL mI oneI (k + 1 + 1 + 1 + n.term.xs.length) n.mul⟩
abbrev nN : Nd → Nat := fun n => 3 + n.term.xs.length + n.mul.length

theorem c29 {L : Nat} (h1 : 4096 ≤ L) (h2 : L ≤ 9223372036854775807) {s : Sq} {left : Int} (hl0 : 0 ≤ left) (hl1 : left ≤ 1048576) : MC Tryz.prog L 13 [aSq s, eI left] [] (Plain (eI (szr left s.size))) := by
 refine MC.alone ?_ rfl
 have hσ := SGok (nt := 18) h1 h2
 refine MC.body hσ Tryz.func13 (by kernel_rfl) rfl rfl (Nat.le_of_ble_eq_true rfl) (fun hF => ?_)
 refine jsr ?_
 refine AOps.heap (HS.box hσ rfl rfl rfl rfl rfl rfl rfl) rfl ?_
 refine jst hσ rfl rfl rfl rfl rfl ?_
 refine jns ?_
 iterate 3 refine jst hσ rfl rfl rfl rfl rfl ?_
 refine AOps.lone hσ rfl rfl rfl rfl (c52 (ts := s.facts) h1 h2 hl0 hl1) (VAs.self rfl) rfl rfl rfl rfl rfl (B0 := 9000) rfl ?_
 refine jst hσ rfl rfl rfl rfl rfl ?_
 refine jn ?_
 refine AWP.seq ?_
 refine jsr ?_
 iterate 2 refine jst hσ rfl rfl rfl rfl rfl ?_
 refine jn ?_
 refine AWP.cond hσ rfl rfl (fun hc10 => ?_) (fun hc10 => ?_)
 ·
  try simp only [jcs] at hc10
  refine jsr ?_
  refine jst hσ rfl rfl rfl rfl rfl ?_
  refine jn ?_
  refine AWP.ret ?_
  refine ⟨.inl rfl, _, Ent.refl, _, rfl, ?_⟩
  unfold Sq.size
  rw [szr_neg _ hc10]
 ·
  try simp only [jcs] at hc10
  refine AWP.skip ?_
  refine jsr ?_
  iterate 3 refine jst hσ rfl rfl rfl rfl rfl ?_
  have le1 := szr_le hl0 (szs Tm.size s.facts)
  refine AOps.lone hσ rfl rfl rfl rfl (c80 (t := s.goal) h1 h2 hc10 (by omega)) (VAs.self rfl) rfl rfl rfl rfl rfl (B0 := 15000) rfl ?_
  refine jst hσ rfl rfl rfl rfl rfl ?_
  refine jn ?_
  refine AWP.seq ?_
  refine jsr ?_
  iterate 2 refine jst hσ rfl rfl rfl rfl rfl ?_
  refine jn ?_
  refine AWP.cond hσ rfl rfl (fun hc16 => ?_) (fun hc16 => ?_)
  ·
   try simp only [jcs] at hc16
   refine jsr ?_
   refine jst hσ rfl rfl rfl rfl rfl ?_
   refine jn ?_
   refine AWP.ret ?_
   refine ⟨.inl rfl, _, Ent.refl, _, rfl, ?_⟩
   rw [szr_add _ hc10] at hc16
   unfold szr at hc16 ⊢
   unfold Sq.size
   split at hc16
   ·
    rw [if_pos (by omega)]
   ·
    omega
  ·
   try simp only [jcs] at hc16
   refine AWP.skip ?_
   refine jsr ?_
   iterate 2 refine jst hσ rfl rfl rfl rfl rfl ?_
   refine jn ?_
   refine AWP.ret ?_
   refine ⟨.inl rfl, _, Ent.refl, _, rfl, ?_⟩
   rw [szr_add _ hc10]
   rfl
theorem c32 {L : Nat} (h1 : 4096 ≤ L) (h2 : L ≤ 1073741824) {s : Sq} : MC Tryz.prog L 17 [aSq s] [] (Rows (.agg [.rs 0 0 s.facts.length, .d (.int .i64 s.goal.c), .rs 1 0 s.goal.xs.length]) [trow s.facts, nrow s.goal.xs]) := by
 refine MC.rows ?_
 have hσ := SGok (nt := 13) h1 (Nat.le_trans h2 (by decide))
 refine MC.body hσ Tryz.func17 (by kernel_rfl) rfl rfl (Nat.le_of_ble_eq_true rfl) (fun hF => ?_)
 refine jsr ?_
 refine AOps.heap (HS.box hσ rfl rfl rfl rfl rfl rfl rfl) rfl ?_
 refine jnm ?_
 refine AOps.heap (HS.alloc hσ rfl rfl rfl rfl rfl) rfl ?_
 refine jnm ?_
 refine jns ?_
 refine AOps.heap (HS.alloc hσ rfl rfl rfl rfl rfl) rfl ?_
 refine jnm ?_
 refine jns ?_
 iterate 2 refine jst hσ rfl rfl rfl rfl rfl ?_
 refine AOps.rows hσ (B0 := 7000) rfl rfl rfl rfl (c59 h1 h2) (VAs.self rfl) rfl rfl rfl rfl rfl rfl ?_
 refine jnm ?_
 refine jst hσ rfl rfl rfl rfl rfl ?_
 refine AOps.heap (HS.storeBox hσ rfl rfl rfl rfl rfl rfl rfl rfl rfl rfl rfl) rfl ?_
 refine jnm ?_
 refine jns ?_
 iterate 2 refine jst hσ rfl rfl rfl rfl rfl ?_
 refine AOps.rows hσ (B0 := 11000) rfl rfl rfl rfl (c87 h1 h2) (VAs.self rfl) rfl rfl rfl rfl rfl rfl ?_
 refine jnm ?_
 refine jst hσ rfl rfl rfl rfl rfl ?_
 refine AOps.heap (HS.storeBox hσ rfl rfl rfl rfl rfl rfl rfl rfl rfl rfl rfl) rfl ?_
 refine jnm ?_
 refine jns ?_
 refine jst hσ rfl rfl rfl rfl rfl ?_
 refine AOps.heap (HS.storeBox hσ rfl rfl rfl rfl rfl rfl rfl rfl rfl rfl rfl) rfl ?_
 refine jnm ?_
 refine jn ?_
 refine AWP.ret ?_
 refine ⟨.inl rfl, _, Ent.refl, _, rfl, [7000, 11000], by decide, rfl, rfl, rfl⟩
theorem c93 {L : Nat} (h1 : 4096 ≤ L) (h2 : L ≤ 1073741824) {s t : Nd} : MC Tryz.prog L 41 [aNd s, aNd t] [] (Plain (eB (decide (s = t)))) := by
 refine MC.alone ?_ rfl
 have hσ := SGok (nt := 27) h1 (Nat.le_trans h2 (by decide))
 refine MC.body hσ Tryz.func41 (by kernel_rfl) rfl rfl (Nat.le_of_ble_eq_true rfl) (fun hF => ?_)
 refine jsr ?_
 refine AOps.heap (HS.box hσ rfl rfl rfl rfl rfl rfl rfl) rfl ?_
 refine AOps.heap (HS.box hσ rfl rfl rfl rfl rfl rfl rfl) rfl ?_
 refine jst hσ rfl rfl rfl rfl rfl ?_
 refine jn ?_
 refine AWP.seq ?_
 refine jsr ?_
 iterate 5 refine jst hσ rfl rfl rfl rfl rfl ?_
 refine jn ?_
 refine AWP.cond hσ rfl rfl (fun hc9 => ?_) (fun hc9 => ?_)
 ·
  try simp only [jcs] at hc9
  refine jsr ?_
  refine jst hσ rfl rfl rfl rfl rfl ?_
  refine jn ?_
  refine AWP.ret ?_
  refine ⟨.inl rfl, _, Ent.refl, _, rfl, ?_⟩
  rw [decide_eq_false (fun e => hc9 (by rw [e]))]
 ·
  try simp only [jcs] at hc9
  refine AWP.skip ?_
  refine AWP.seq ?_
  refine jsr ?_
  iterate 5 refine jst hσ rfl rfl rfl rfl rfl ?_
  refine jn ?_
  refine AWP.cond hσ rfl rfl (fun hc14 => ?_) (fun hc14 => ?_)
  ·
   try simp only [jcs] at hc14
   refine jsr ?_
   refine jst hσ rfl rfl rfl rfl rfl ?_
   refine jn ?_
   refine AWP.ret ?_
   refine ⟨.inl rfl, _, Ent.refl, _, rfl, ?_⟩
   rw [decide_eq_false (fun e => hc14 (by rw [e]))]
  ·
   try simp only [jcs] at hc14
   refine AWP.skip ?_
   refine AWP.seq ?_
   refine jsr ?_
   iterate 4 refine jst hσ rfl rfl rfl rfl rfl ?_
   refine AOps.lone hσ rfl rfl rfl rfl (c92 h1 h2) (VAs.self rfl) rfl rfl rfl rfl rfl (B0 := 20000) rfl ?_
   refine jst hσ rfl rfl rfl rfl rfl ?_
   refine jn ?_
   refine AWP.cond hσ rfl rfl (fun hc20 => ?_) (fun hc20 => ?_)
   ·
    try simp only [jcs] at hc20
    refine jsr ?_
    refine jst hσ rfl rfl rfl rfl rfl ?_
    refine jn ?_
    refine AWP.ret ?_
    refine ⟨.inl rfl, _, Ent.refl, _, rfl, ?_⟩
    rw [decide_eq_false (fun e => hc20 (by rw [e]))]
   ·
    try simp only [jcs] at hc20
    refine AWP.skip ?_
    refine AWP.seq ?_
    refine jsr ?_
    iterate 4 refine jst hσ rfl rfl rfl rfl rfl ?_
    refine AOps.lone hσ rfl rfl rfl rfl (c15 h1 h2) (VAs.self rfl) rfl rfl rfl rfl rfl (B0 := 26000) rfl ?_
    refine jst hσ rfl rfl rfl rfl rfl ?_
    refine jn ?_
    refine AWP.cond hσ rfl rfl (fun hc26 => ?_) (fun hc26 => ?_)
    ·
     try simp only [jcs] at hc26
     refine jsr ?_
     refine jst hσ rfl rfl rfl rfl rfl ?_
     refine jn ?_
     refine AWP.ret ?_
     refine ⟨.inl rfl, _, Ent.refl, _, rfl, ?_⟩
     rw [decide_eq_false (fun e => hc26 (by rw [e]))]
    ·
     try simp only [jcs] at hc26
     refine AWP.skip ?_
     refine jsr ?_
     refine jst hσ rfl rfl rfl rfl rfl ?_
     refine jn ?_
     refine AWP.ret ?_
     refine ⟨.inl rfl, _, Ent.refl, _, rfl, ?_⟩
     have e : s = t := by cases s; cases t; simp_all
     rw [decide_eq_true e]
theorem c37 {L : Nat} (h1 : 4096 ≤ L) (h2 : L ≤ 1073741824) {xs ys : List Nd} : MC Tryz.prog L 21 [.c (.d (nds xs)), .c (.d (nds ys))] [] (Plain (eB (decide (xs = ys)))) := by
 refine MC.alone ?_ rfl
 have hσ := SGok (nt := 27) h1 (Nat.le_trans h2 (by decide))
 refine MC.body hσ Tryz.func21 (by kernel_rfl) rfl rfl (Nat.le_of_ble_eq_true rfl) (fun hF => ?_)
 have hl : xs.length ≤ L := by simpa [As.fact, A.fact, M.fact, D.fact, Ds.fact] using hF.1.1
 have hl2 : ys.length ≤ L := by simpa [As.fact, A.fact, M.fact, D.fact, Ds.fact] using hF.2.1.1
 refine jsr ?_
 refine jst hσ rfl rfl rfl rfl rfl ?_
 refine jn ?_
 refine AWP.seq ?_
 refine jsr ?_
 refine jst hσ rfl rfl rfl rfl rfl ?_
 first | refine jle hσ rfl rfl rfl rfl rfl rfl rfl rfl rfl rfl rfl ?_ | refine jst hσ rfl rfl rfl rfl rfl ?_ | refine jvf hσ rfl rfl rfl rfl rfl ?_
 refine jst hσ rfl rfl rfl rfl rfl ?_
 first | refine jle hσ rfl rfl rfl rfl rfl rfl rfl rfl rfl rfl rfl ?_ | refine jst hσ rfl rfl rfl rfl rfl ?_ | refine jvf hσ rfl rfl rfl rfl rfl ?_
 refine jst hσ rfl rfl rfl rfl rfl ?_
 refine jn ?_
 refine AWP.cond hσ rfl rfl (fun hc10 => ?_) (fun hc10 => ?_)
 ·
  try simp only [jcs] at hc10
  refine jsr ?_
  refine jst hσ rfl rfl rfl rfl rfl ?_
  refine jn ?_
  refine AWP.ret ?_
  refine ⟨.inl rfl, _, Ent.refl, _, rfl, ?_⟩
  rw [decide_eq_false (fun e => by subst e; simp at hc10)]
 ·
  try simp only [jcs] at hc10
  refine AWP.skip ?_
  refine AWP.seq ?_
  refine jsr ?_
  refine jst hσ rfl rfl rfl rfl rfl ?_
  refine jn ?_
  refine AWP.block ?_
  refine AWP.loopP (X := Nat) (fun i => ⟨[(0, .c (.d (nds xs))), (1, .c (.d (nds ys))), (5, eI i)], []⟩) (fun i => i ≤ xs.length ∧ ∀ j, j < i → xs[j]? = ys[j]?) (fun i => xs.length - i) 0 (Ent.env ⟨rfl, rfl, rfl, trivial⟩) ?_ (fun i hi => ?_)
  ·
   exact ⟨Nat.zero_le _, fun j hj => absurd hj (Nat.not_lt_zero j)⟩
  refine AWP.seq ?_
  refine jsr ?_
  iterate 2 refine jst hσ rfl rfl rfl rfl rfl ?_
  first | refine jle hσ rfl rfl rfl rfl rfl rfl rfl rfl rfl rfl rfl ?_ | refine jst hσ rfl rfl rfl rfl rfl ?_ | refine jvf hσ rfl rfl rfl rfl rfl ?_
  refine jst hσ rfl rfl rfl rfl rfl ?_
  refine jn ?_
  refine AWP.cond hσ rfl rfl (fun hc14 => ?_) (fun hc14 => ?_)
  ·
   try simp only [jcs] at hc14
   refine AWP.skip ?_
   refine AWP.seq ?_
   refine AWP.block ?_
   refine AWP.seq ?_
   refine AWP.drawR hσ _ [_, _, _, _, _, _, _, _, _, _] [⟨[], 0, 0, none⟩, ⟨[], 0, 0, none⟩, ⟨[0, 1], 0, 0, none⟩, ⟨[0, 1, 2], 0, 0, none⟩, ⟨[], 0, 0, none⟩, ⟨[], 0, 0, none⟩, ⟨[4, 5], 0, 0, none⟩, ⟨[4, 5, 6], 0, 0, none⟩, ⟨[0, 1, 2, 3, 4, 5, 6, 7], 0, 0, some 0⟩, ⟨[0, 1, 2, 3, 4, 5, 6, 7, 8], 1, 1, none⟩] [8] [_, _] rfl rfl (by decide) (by decide) (by kernel_rfl) (And.intro (Val.of hσ rfl rfl) (And.intro (Val.of hσ rfl rfl) (And.intro (Val.indexD hσ rfl rfl rfl rfl rfl rfl rfl rfl (by first | omega | (simp at *; omega)) (idx_get (by first | omega | (simp at *; omega)) (by first | omega | (simp at *; omega)))) (And.intro (Val.of hσ rfl rfl) (And.intro (Val.of hσ rfl rfl) (And.intro (Val.of hσ rfl rfl) (And.intro (Val.indexD hσ rfl rfl rfl rfl rfl rfl rfl rfl (by first | omega | (simp at *; omega)) (idx_get (by first | omega | (simp at *; omega)) (by first | omega | (simp at *; omega)))) (And.intro (Val.of hσ rfl rfl) (And.intro (Eff.lone hσ (B0 := 26000) rfl rfl rfl rfl (c93 h1 h2) (VAs.self rfl) rfl rfl rfl rfl rfl) (And.intro (Val.of hσ rfl rfl) trivial)))))))))) ?_
   refine AWP.cond hσ rfl rfl (fun hc26 => ?_) (fun hc26 => ?_)
   ·
    try simp only [jcs] at hc26
    refine jsr ?_
    refine jst hσ rfl rfl rfl rfl rfl ?_
    refine jn ?_
    refine AWP.ret ?_
    refine ⟨.inl rfl, _, Ent.refl, _, rfl, ?_⟩
    rw [decide_eq_false (fun e => by subst e; simp at hc26)]
   ·
    try simp only [jcs] at hc26
    refine AWP.skip ?_
    refine AWP.region ?_
    refine jst hσ rfl rfl rfl rfl rfl ?_
    first | refine jfi hσ rfl rfl rfl rfl rfl ?_ | refine jvf hσ rfl rfl rfl rfl rfl ?_
    refine jst hσ rfl rfl rfl rfl rfl ?_
    refine jn ?_
    refine ⟨i + 1, Ent.env ⟨rfl, rfl, rfl, trivial⟩, ⟨by omega, fun j hj => ?_⟩, by omega⟩
    rcases Nat.lt_or_ge j i with h | h
    ·
     exact hi.2 j h
    ·
     obtain rfl : j = i := by omega
     rw [Int.toNat_natCast, getD_lt (by omega), getD_lt (by omega)] at hc26
     rw [List.getElem?_eq_getElem (by omega), List.getElem?_eq_getElem (by omega), hc26]
  ·
   try simp only [jcs] at hc14
   refine AWP.exit ?_
   refine jsr ?_
   refine jst hσ rfl rfl rfl rfl rfl ?_
   refine jn ?_
   refine AWP.ret ?_
   refine ⟨.inl rfl, _, Ent.refl, _, rfl, ?_⟩
   have e : xs = ys := List.ext_getElem? fun j => by
    rcases Nat.lt_or_ge j i with h | h
    ·
     exact hi.2 j h
    ·
     rw [List.getElem?_eq_none (by omega), List.getElem?_eq_none (by omega)]
   rw [decide_eq_true e]
theorem c36 {L : Nat} (h1 : 4096 ≤ L) (h2 : L ≤ 1073741824) {s t : Sq} : MC Tryz.prog L 22 [aSq s, aSq t] [] (Plain (eB (decide (s = t)))) := by
 refine MC.alone ?_ rfl
 have hσ := SGok (nt := 17) h1 (Nat.le_trans h2 (by decide))
 refine MC.body hσ Tryz.func22 (by kernel_rfl) rfl rfl (Nat.le_of_ble_eq_true rfl) (fun hF => ?_)
 refine jsr ?_
 refine AOps.heap (HS.box hσ rfl rfl rfl rfl rfl rfl rfl) rfl ?_
 refine AOps.heap (HS.box hσ rfl rfl rfl rfl rfl rfl rfl) rfl ?_
 refine jst hσ rfl rfl rfl rfl rfl ?_
 refine jn ?_
 refine AWP.seq ?_
 refine jsr ?_
 iterate 4 refine jst hσ rfl rfl rfl rfl rfl ?_
 refine AOps.lone hσ rfl rfl rfl rfl (c35 h1 h2) (VAs.self rfl) rfl rfl rfl rfl rfl (B0 := 10000) rfl ?_
 refine jst hσ rfl rfl rfl rfl rfl ?_
 refine jn ?_
 refine AWP.cond hσ rfl rfl (fun hc10 => ?_) (fun hc10 => ?_)
 ·
  try simp only [jcs] at hc10
  refine jsr ?_
  refine jst hσ rfl rfl rfl rfl rfl ?_
  refine jn ?_
  refine AWP.ret ?_
  refine ⟨.inl rfl, _, Ent.refl, _, rfl, ?_⟩
  rw [decide_eq_false (fun e => hc10 (by rw [e]))]
 ·
  try simp only [jcs] at hc10
  refine AWP.skip ?_
  refine AWP.seq ?_
  refine jsr ?_
  iterate 4 refine jst hσ rfl rfl rfl rfl rfl ?_
  refine AOps.lone hσ rfl rfl rfl rfl (c92 h1 h2) (VAs.self rfl) rfl rfl rfl rfl rfl (B0 := 16000) rfl ?_
  refine jst hσ rfl rfl rfl rfl rfl ?_
  refine jn ?_
  refine AWP.cond hσ rfl rfl (fun hc16 => ?_) (fun hc16 => ?_)
  ·
   try simp only [jcs] at hc16
   refine jsr ?_
   refine jst hσ rfl rfl rfl rfl rfl ?_
   refine jn ?_
   refine AWP.ret ?_
   refine ⟨.inl rfl, _, Ent.refl, _, rfl, ?_⟩
   rw [decide_eq_false (fun e => hc16 (by rw [e]))]
  ·
   try simp only [jcs] at hc16
   refine AWP.skip ?_
   refine jsr ?_
   refine jst hσ rfl rfl rfl rfl rfl ?_
   refine jn ?_
   refine AWP.ret ?_
   refine ⟨.inl rfl, _, Ent.refl, _, rfl, ?_⟩
   have e : s = t := by cases s; cases t; simp_all
   rw [decide_eq_true e]
theorem c39n {L : Nat} (h1 : 4096 ≤ L) (h2 : L ≤ 1073741824) {k : Int} : MC Tryz.prog L 25 [.c (.d (nds [])), eI k] [] (Plain (eI k)) := by
 refine MC.alone ?_ rfl
 have hσ := SGok (nt := 50) h1 (Nat.le_trans h2 (by decide))
 refine MC.body hσ Tryz.func25 (by kernel_rfl) rfl rfl (Nat.le_of_ble_eq_true rfl) (fun hF => ?_)
 refine jsr ?_
 refine jst hσ rfl rfl rfl rfl rfl ?_
 refine jn ?_
 refine AWP.seq ?_
 refine jsr ?_
 refine jst hσ rfl rfl rfl rfl rfl ?_
 refine jn ?_
 refine AWP.block ?_
 refine AWP.loopP (X := Nat) (fun i => ⟨[(0, .c (.d (nds []))), (1, eI k), (5, eI 0)], []⟩) (fun i => True) (fun i => 0) 0 (Ent.env ⟨rfl, rfl, rfl, trivial⟩) ?_ (fun i hi => ?_)
 ·
  trivial
 refine AWP.seq ?_
 refine jsr ?_
 iterate 2 refine jst hσ rfl rfl rfl rfl rfl ?_
 first | refine jle hσ rfl rfl rfl rfl rfl rfl rfl rfl rfl rfl rfl ?_ | refine jst hσ rfl rfl rfl rfl rfl ?_ | refine jvf hσ rfl rfl rfl rfl rfl ?_
 refine jst hσ rfl rfl rfl rfl rfl ?_
 refine jn ?_
 refine AWP.cond hσ rfl rfl (fun hc9 => ?_) (fun hc9 => ?_)
 ·
  try simp only [jcs] at hc9
  exact absurd hc9 (by simp)
 ·
  try simp only [jcs] at hc9
  refine AWP.exit ?_
  refine jsr ?_
  iterate 2 refine jst hσ rfl rfl rfl rfl rfl ?_
  refine jn ?_
  refine AWP.ret ?_
  refine ⟨.inl rfl, _, Ent.refl, _, rfl, ?_⟩
  first | rfl | skip
theorem c39 {L : Nat} (h1 : 4096 ≤ L) (h2 : L ≤ 1073741824) {ts : List Nd} {k : Int} (hk0 : 0 ≤ k) (hk1 : k + cnt nN ts ≤ 1073741824) : MC Tryz.prog L 25 [.c (.rs 0 0 ts.length), eI k] [(0, ndrow ts)] (Outs (eI (k + cnt nN ts)) [(0, ndrow (markL mN nN k ts))]) := by
 have hσ := SgOk.withIns (js := [0]) (SGok (nt := 50) h1 (Nat.le_trans h2 (by decide)))
 refine MC.bodyH hσ Tryz.func25 (by kernel_rfl) rfl rfl rfl (Nat.le_of_ble_eq_true rfl) (fun hF => ?_)
 refine AWP.factH 0 rfl (fun hB => ?_)
 have hl : ts.length ≤ L := by simpa [B.fact] using hB.1
 refine jsr ?_
 refine jst hσ rfl rfl rfl rfl rfl ?_
 refine jn ?_
 refine AWP.seq ?_
 refine jsr ?_
 refine jst hσ rfl rfl rfl rfl rfl ?_
 refine jn ?_
 refine AWP.block ?_
 refine AWP.loopP (X := Nat) (fun i => ⟨[(0, .c (.rs 0 0 ts.length)), (1, eI (k + cnt nN (ts.take i))), (5, eI i)], [(0, ndrow (mk mN nN k i ts))]⟩) (fun i => i ≤ ts.length) (fun i => ts.length - i) 0 (Ent.to ⟨rfl, by simp [numbered, lk_cons, cnt], rfl, trivial⟩ (by simp [mk_zero])) ?_ (fun i hi => ?_)
 ·
  exact Nat.zero_le _
 refine AWP.seq ?_
 refine jsr ?_
 iterate 2 refine jst hσ rfl rfl rfl rfl rfl ?_
 first | refine jle hσ rfl rfl rfl rfl rfl rfl rfl rfl rfl rfl rfl ?_ | refine jst hσ rfl rfl rfl rfl rfl ?_ | refine jvf hσ rfl rfl rfl rfl rfl ?_
 refine jst hσ rfl rfl rfl rfl rfl ?_
 refine jf4 9 0 1 5 rfl rfl rfl rfl ?_
 refine jn ?_
 refine AWP.cond hσ rfl rfl (fun hc9 => ?_) (fun hc9 => ?_)
 ·
  try simp only [jcs] at hc9
  refine AWP.skip ?_
  refine AWP.seq ?_
  refine AWP.block ?_
  refine jsr ?_
  iterate 3 refine jst hσ rfl rfl rfl rfl rfl ?_
  first | refine jix hσ rfl rfl rfl rfl rfl rfl rfl rfl rfl rfl rfl ?_ | refine jvf hσ rfl rfl rfl rfl rfl ?_
  refine jst hσ rfl rfl rfl rfl rfl ?_
  refine jf6 16 14 9 0 1 5 rfl rfl rfl rfl rfl rfl ?_
  obtain ⟨K, hK⟩ : ∃ K, K = k + (cnt nN (ts.take i) : Int) := ⟨_, rfl⟩
  rw [← hK]
  have hcs := cnt_succ (sz := nN) (show i < ts.length by omega)
  have hcl := cnt_le (sz := nN) (l := ts) (i := i + 1)
  have hg := mk_get (f := mN) (sz := nN) (k := k) (show i < ts.length by omega)
  have hs := mk_succ (f := mN) (sz := nN) (k := k) (show i < ts.length by omega)
  rw [← getD_lt (show i < ts.length by omega)] at hcs hg hs
  obtain ⟨t, ht⟩ : ∃ t, t = ts.getD i default := ⟨_, rfl⟩
  rw [← ht] at hcs hg hs
  rw [← hK] at hs
  simp only [nN] at hcs
  have hb : K + (3 + t.term.xs.length + t.mul.length : Nat) ≤ 1073741824 := by omega
  obtain ⟨R, hR⟩ : ∃ R, R = (mk mN nN k i ts).map Nd.cells := ⟨_, rfl⟩
  have hRl : i < R.length := by rw [hR, List.length_map, mk_length]; omega
  have hRi : R[i]? = some t.cells := by rw [hR, List.getElem?_map, hg]; rfl
  have hRn : R.set i (mN K t).cells = (mk mN nN k (i + 1) ts).map Nd.cells := by rw [hR, ← hs, List.map_set]
  have e0 : ndrow (mk mN nN k i ts) = .row true 5 (R.set i t.cells) := by rw [set_self' hRi, hR]
  rw [e0]
  refine AOps.heap (HS.storeRow (ex := [.int .i64 (t.kind), .int .i64 (t.fact), .int .i64 (t.term.c), ints (t.term.xs), ints (t.mul)]) (xs' := R.set i [.int .i64 (K), .int .i64 (t.fact), .int .i64 (t.term.c), ints (t.term.xs), ints (t.mul)]) hσ rfl rfl rfl rfl rfl rfl rfl rfl rfl rfl rfl rfl rfl rfl (by simp [hRl]) (by simp)) rfl ?_
  refine jnm ?_
  refine jf4 9 0 1 5 rfl rfl rfl rfl ?_
  refine jns ?_
  refine jst hσ rfl rfl rfl rfl rfl ?_
  first | refine jfi hσ rfl rfl rfl rfl rfl ?_ | refine jvf hσ rfl rfl rfl rfl rfl ?_
  refine jst hσ rfl rfl rfl rfl rfl ?_
  refine jf4 1 9 0 5 rfl rfl rfl rfl ?_
  refine jns ?_
  iterate 3 refine jst hσ rfl rfl rfl rfl rfl ?_
  first | refine jix hσ rfl rfl rfl rfl rfl rfl rfl rfl rfl rfl rfl ?_ | refine jvf hσ rfl rfl rfl rfl rfl ?_
  refine jst hσ rfl rfl rfl rfl rfl ?_
  refine jf6 23 21 1 9 0 5 rfl rfl rfl rfl rfl rfl ?_
  refine AOps.heap (HS.storeRow (ex := [.int .i64 (K), .int .i64 (t.fact), .int .i64 (t.term.c), ints (t.term.xs), ints (t.mul)]) (xs' := R.set i [.int .i64 (K), .int .i64 (K + 1), .int .i64 (t.term.c), ints (t.term.xs), ints (t.mul)]) hσ rfl rfl rfl rfl rfl rfl rfl rfl rfl rfl rfl rfl rfl rfl (by simp [hRl]) (by simp)) rfl ?_
  refine jnm ?_
  refine jf4 1 9 0 5 rfl rfl rfl rfl ?_
  refine jns ?_
  refine jst hσ rfl rfl rfl rfl rfl ?_
  first | refine jfi hσ rfl rfl rfl rfl rfl ?_ | refine jvf hσ rfl rfl rfl rfl rfl ?_
  refine jst hσ rfl rfl rfl rfl rfl ?_
  refine jf4 1 9 0 5 rfl rfl rfl rfl ?_
  refine jns ?_
  iterate 3 refine jst hσ rfl rfl rfl rfl rfl ?_
  first | refine jix hσ rfl rfl rfl rfl rfl rfl rfl rfl rfl rfl rfl ?_ | refine jvf hσ rfl rfl rfl rfl rfl ?_
  iterate 2 refine jst hσ rfl rfl rfl rfl rfl ?_
  refine jf6 31 28 1 9 0 5 rfl rfl rfl rfl rfl rfl ?_
  refine AOps.heap (HS.storeRow (ex := [.int .i64 (K), .int .i64 (K + 1), .int .i64 (t.term.c), ints (t.term.xs), ints (t.mul)]) (xs' := R.set i [.int .i64 (K), .int .i64 (K + 1), .int .i64 (K + 1 + 1), ints (t.term.xs), ints (t.mul)]) hσ rfl rfl rfl rfl rfl rfl rfl rfl rfl rfl rfl rfl rfl rfl (by simp [hRl]) (by simp)) rfl ?_
  refine jnm ?_
  refine jf4 1 9 0 5 rfl rfl rfl rfl ?_
  refine jns ?_
  refine jst hσ rfl rfl rfl rfl rfl ?_
  first | refine jfi hσ rfl rfl rfl rfl rfl ?_ | refine jvf hσ rfl rfl rfl rfl rfl ?_
  refine jst hσ rfl rfl rfl rfl rfl ?_
  refine jf4 1 9 0 5 rfl rfl rfl rfl ?_
  refine jns ?_
  iterate 2 refine jst hσ rfl rfl rfl rfl rfl ?_
  first | refine jix hσ rfl rfl rfl rfl rfl rfl rfl rfl rfl rfl rfl ?_ | refine jvf hσ rfl rfl rfl rfl rfl ?_
  iterate 2 refine jst hσ rfl rfl rfl rfl rfl ?_
  refine AOps.step (Val.loadRow hσ (ex := [.int .i64 (K), .int .i64 (K + 1), .int .i64 (K + 1 + 1), ints (t.term.xs), ints (t.mul)]) rfl rfl rfl rfl (by simp [hRl]) rfl) rfl rfl rfl ?_
  refine jst hσ rfl rfl rfl rfl rfl ?_
  refine jf6 40 39 1 9 0 5 rfl rfl rfl rfl rfl rfl ?_
  refine AOps.innRp hσ (l := 0) (j := 3) (z := 1) (ex := [.int .i64 (K), .int .i64 (K + 1), .int .i64 (K + 1 + 1), ints (t.term.xs), ints (t.mul)]) (ys := (t.term.xs).map (fun n => [D.int .i64 n])) (ys' := (markL mI oneI (K + 1 + 1 + 1) t.term.xs).map (fun n => [D.int .i64 n])) (xs' := R.set i [.int .i64 (K), .int .i64 (K + 1), .int .i64 (K + 1 + 1), ints (markL mI oneI (K + 1 + 1 + 1) t.term.xs), ints (t.mul)]) rfl rfl rfl rfl (.rp (.d rfl .nil)) (.rp (.d rfl .nil)) rfl (by simp [hRl]) rfl (c19 (xs := t.term.xs) (k := (K + 1 + 1 + 1)) h1 h2 (by omega) (by omega)).1 (fun _ => by rw [List.length_map]; exact c19 (xs := t.term.xs) h1 h2 (by omega) (by omega)) (fun hys => ?_) rfl (by simp [markL_length]) rfl rfl rfl rfl (by simp) ?_
  ·
   have hy : t.term.xs = [] := by simpa using hys
   rw [hy]
   exact (c19n h1 h2 (k := (K + 1 + 1 + 1))).plain (by simp [cnt, hy])
  refine jnm ?_
  refine jst hσ rfl rfl rfl rfl rfl ?_
  refine jf4 1 9 0 5 rfl rfl rfl rfl ?_
  refine jn ?_
  refine AWP.region ?_
  iterate 2 refine jst hσ rfl rfl rfl rfl rfl ?_
  first | refine jix hσ rfl rfl rfl rfl rfl rfl rfl rfl rfl rfl rfl ?_ | refine jvf hσ rfl rfl rfl rfl rfl ?_
  refine jst hσ rfl rfl rfl rfl rfl ?_
  refine AOps.step (Val.loadRow hσ (ex := [.int .i64 (K), .int .i64 (K + 1), .int .i64 (K + 1 + 1), ints (markL mI oneI (K + 1 + 1 + 1) t.term.xs), ints (t.mul)]) rfl rfl rfl rfl (by simp [hRl]) rfl) rfl rfl rfl ?_
  refine jst hσ rfl rfl rfl rfl rfl ?_
  refine jf6 47 46 1 9 0 5 rfl rfl rfl rfl rfl rfl ?_
  refine AOps.innRp hσ (l := 0) (j := 4) (z := 1) (ex := [.int .i64 (K), .int .i64 (K + 1), .int .i64 (K + 1 + 1), ints (markL mI oneI (K + 1 + 1 + 1) t.term.xs), ints (t.mul)]) (ys := (t.mul).map (fun n => [D.int .i64 n])) (ys' := (markL mI oneI (K + 1 + 1 + 1 + t.term.xs.length) t.mul).map (fun n => [D.int .i64 n])) (xs' := R.set i [.int .i64 (K), .int .i64 (K + 1), .int .i64 (K + 1 + 1), ints (markL mI oneI (K + 1 + 1 + 1) t.term.xs), ints (markL mI oneI (K + 1 + 1 + 1 + t.term.xs.length) t.mul)]) rfl rfl rfl rfl (.rp (.d rfl .nil)) (.rp (.d rfl .nil)) rfl (by simp [hRl]) rfl (c19 (xs := t.mul) (k := (K + 1 + 1 + 1 + t.term.xs.length)) h1 h2 (by omega) (by omega)).1 (fun _ => by rw [List.length_map]; exact c19 (xs := t.mul) h1 h2 (by omega) (by omega)) (fun hys => ?_) rfl (by simp [markL_length]) rfl rfl rfl rfl (by simp) ?_
  ·
   have hy : t.mul = [] := by simpa using hys
   rw [hy]
   exact (c19n h1 h2 (k := (K + 1 + 1 + 1 + t.term.xs.length))).plain (by simp [cnt, hy])
  refine jnm ?_
  refine jst hσ rfl rfl rfl rfl rfl ?_
  refine jf4 1 9 0 5 rfl rfl rfl rfl ?_
  refine jn ?_
  refine AWP.region ?_
  refine jst hσ rfl rfl rfl rfl rfl ?_
  first | refine jfi hσ rfl rfl rfl rfl rfl ?_ | refine jvf hσ rfl rfl rfl rfl rfl ?_
  refine jst hσ rfl rfl rfl rfl rfl ?_
  refine jf4 5 1 9 0 rfl rfl rfl rfl ?_
  refine jn ?_
  refine ⟨i + 1, Ent.to ⟨rfl, ?_, rfl, trivial⟩ (by rw [ndrow, ← hRn]), by omega, by omega⟩
  rw [hcs]
  exact congrArg (fun z => some (eI z)) (by omega)
 ·
  try simp only [jcs] at hc9
  refine AWP.exit ?_
  refine jsr ?_
  iterate 2 refine jst hσ rfl rfl rfl rfl rfl ?_
  refine jn ?_
  refine AWP.ret ?_
  refine ⟨.inl rfl, _, Ent.refl, _, rfl, ?_⟩
  obtain rfl : i = ts.length := by omega
  rw [mk_all (Nat.le_refl _), List.take_length]
  exact ⟨rfl, rfl⟩
end Go.Al
namespace Go.Al
open Go.Proofs
set_option linter.unusedVariables false
set_option linter.unusedSimpArgs false
set_option maxRecDepth 10000
theorem c151d {L : Nat} (h1 : 4096 ≤ L) (h2 : L ≤ 1073741824) {xs : List Int} : MC Tryz.prog L 51 [aints xs] [] (Plain (aints xs)) := (c151 h1 h2).frozen (.v (.c (.whole rfl (List.length_map _).symm)))
theorem c158d {L : Nat} (h1 : 4096 ≤ L) (h2 : L ≤ 1073741824) {xs : List Int} : MC Tryz.prog L 66 [aints xs] [] (Plain (aints xs)) := (c158 h1 h2).frozen (.v (.c (.whole rfl (List.length_map _).symm)))
abbrev drow (ts : List Tm) : B := .row false 2 (ts.map Tm.cells)

theorem c143 {L : Nat} (h1 : 4096 ≤ L) (h2 : L ≤ 1073741824) {t : Tm} : MC Tryz.prog L 87 [ptr t.cells] [] (Plain (aTm' t)) := by
 refine MC.data ?_
 have hσ := SGok (nt := 13) h1 (Nat.le_trans h2 (by decide))
 refine MC.body hσ Tryz.func87 (by kernel_rfl) rfl rfl (Nat.le_of_ble_eq_true rfl) (fun hF => ?_)
 refine jsr ?_
 refine AOps.heap (HS.alloc hσ rfl rfl rfl rfl rfl) rfl ?_
 refine jn ?_
 refine AWP.seq ?_
 refine AWP.drawR hσ _ [_, _, _, _, _, _, _, _, _, _, _] [⟨[], 0, 1, none⟩, ⟨[0], 0, 1, none⟩, ⟨[0, 1], 0, 1, none⟩, ⟨[0, 1, 2], 0, 1, none⟩, ⟨[], 0, 0, none⟩, ⟨[4], 0, 0, none⟩, ⟨[4, 5], 0, 0, none⟩, ⟨[4, 5, 6], 0, 0, none⟩, ⟨[4, 5, 6, 7], 0, 0, some 0⟩, ⟨[0, 1, 2, 3, 4, 5, 6, 7, 8], 1, 1, none⟩, ⟨[0, 1, 2, 3, 4, 5, 6, 7, 8, 9], 0, 0, some 1⟩] [8, 10] [_, _, _] rfl rfl (by decide) (by decide) (by kernel_rfl) (And.intro (And.intro (Val.of hσ rfl rfl) (Val.of hσ rfl rfl)) (And.intro (And.intro (Val.of hσ rfl rfl) (Val.of hσ rfl rfl)) (And.intro (And.intro (Val.of hσ rfl rfl) (Val.of hσ rfl rfl)) (And.intro (And.intro (Val.of hσ rfl rfl) (Val.of hσ rfl rfl)) (And.intro (Val.of hσ rfl rfl) (And.intro (Val.of hσ rfl rfl) (And.intro (Val.of hσ rfl rfl) (And.intro (Val.of hσ rfl rfl) (And.intro (Eff.plainD hσ (B0 := 12000) rfl rfl rfl rfl (c151d (xs := t.xs) h1 h2) (VAs.self rfl) rfl rfl rfl rfl rfl) (And.intro (Val.of hσ rfl rfl) (And.intro (Eff.storeBox hσ rfl rfl rfl rfl rfl rfl rfl rfl rfl rfl rfl rfl rfl) trivial))))))))))) ?_
 refine AWP.ret ?_
 refine ⟨.inl rfl, _, Ent.refl, _, rfl, ?_⟩
 exact .v (.agg (VMs.self rfl))
theorem c148 {L : Nat} (h1 : 4096 ≤ L) (h2 : L ≤ 1073741824) {t : Tm} : MC Tryz.prog L 60 [aTm' t] [] (Plain (aTm' t)) := by
 refine MC.data ?_
 have hσ := SGok (nt := 9) h1 (Nat.le_trans h2 (by decide))
 refine MC.body hσ Tryz.func60 (by kernel_rfl) rfl rfl (Nat.le_of_ble_eq_true rfl) (fun hF => ?_)
 refine jsr ?_
 refine AOps.heap (HS.box hσ rfl rfl rfl rfl rfl rfl rfl) rfl ?_
 refine AOps.heap (HS.alloc hσ rfl rfl rfl rfl rfl) rfl ?_
 refine jn ?_
 refine AWP.seq ?_
 refine AWP.drawR hσ _ [_, _, _, _, _, _, _] [⟨[], 0, 1, none⟩, ⟨[0], 0, 1, none⟩, ⟨[], 0, 0, none⟩, ⟨[2], 0, 0, none⟩, ⟨[2, 3], 0, 0, some 0⟩, ⟨[0, 1, 2, 3, 4], 1, 1, none⟩, ⟨[0, 1, 2, 3, 4, 5], 0, 0, some 1⟩] [4, 6] [_, _, _] rfl rfl (by decide) (by decide) (by kernel_rfl) (And.intro (And.intro (Val.of hσ rfl rfl) (Val.of hσ rfl rfl)) (And.intro (And.intro (Val.of hσ rfl rfl) (Val.of hσ rfl rfl)) (And.intro (Val.of hσ rfl rfl) (And.intro (Val.of hσ rfl rfl) (And.intro (Eff.plainD hσ (B0 := 8000) rfl rfl rfl rfl (c158d (xs := t.xs) h1 h2) (VAs.self rfl) rfl rfl rfl rfl rfl) (And.intro (Val.of hσ rfl rfl) (And.intro (Eff.storeBox hσ rfl rfl rfl rfl rfl rfl rfl rfl rfl rfl rfl rfl rfl) trivial))))))) ?_
 refine AWP.ret ?_
 refine ⟨.inl rfl, _, Ent.refl, _, rfl, ?_⟩
 exact .v (.agg (VMs.self rfl))
theorem c86r {L : Nat} (h1 : 4096 ≤ L) (h2 : L ≤ 1073741824) {ts : List Tm} : MC Tryz.prog L 70 [atms ts] [] (Rows (.c (.rs 0 0 ts.length)) [drow ts]) := by
 refine MC.rows ?_
 have hσ := SGok (nt := 20) h1 (Nat.le_trans h2 (by decide))
 refine MC.body hσ Tryz.func70 (by kernel_rfl) rfl rfl (Nat.le_of_ble_eq_true rfl) (fun hF => ?_)
 have hl : ts.length ≤ L := by simpa [As.fact, A.fact, M.fact, D.fact, Ds.fact] using hF.1.1
 refine jsr ?_
 refine jst hσ rfl rfl rfl rfl rfl ?_
 refine jns ?_
 refine AOps.heap (HS.lit hσ rfl rfl rfl) rfl ?_
 refine jst hσ rfl rfl rfl rfl rfl ?_
 refine jn ?_
 refine AWP.seq ?_
 refine jsr ?_
 refine jst hσ rfl rfl rfl rfl rfl ?_
 refine jn ?_
 refine AWP.block ?_
 refine AWP.loopP (X := Nat) (fun i => ⟨[(0, atms ts), (3, .c (.rs 900 0 i)), (4, eI i)], [(900, drow (ts.take i))]⟩) (fun i => i ≤ ts.length) (fun i => ts.length - i) 0 ((Ent.unown 5 rfl).trans ((Ent.sub2 5 900 rfl rfl).trans (Ent.to ⟨rfl, rfl, rfl, trivial⟩ rfl))) ?_ (fun i hi => ?_)
 ·
  exact Nat.zero_le _
 refine AWP.seq ?_
 refine jsr ?_
 iterate 2 refine jst hσ rfl rfl rfl rfl rfl ?_
 first | refine jle hσ rfl rfl rfl rfl rfl rfl rfl rfl rfl rfl rfl ?_ | refine jst hσ rfl rfl rfl rfl rfl ?_ | refine jvf hσ rfl rfl rfl rfl rfl ?_
 refine jst hσ rfl rfl rfl rfl rfl ?_
 refine jf4 9 0 3 4 rfl rfl rfl rfl ?_
 refine jn ?_
 refine AWP.cond hσ rfl rfl (fun hc9 => ?_) (fun hc9 => ?_)
 ·
  try simp only [jcs] at hc9
  refine AWP.skip ?_
  refine AWP.seq ?_
  refine AWP.block ?_
  refine AWP.region ?_
  iterate 3 refine jst hσ rfl rfl rfl rfl rfl ?_
  first | refine jix hσ rfl rfl rfl rfl rfl rfl rfl rfl rfl rfl rfl ?_ | refine jvf hσ rfl rfl rfl rfl rfl ?_
  refine jf6 15 12 9 0 3 4 rfl rfl rfl rfl rfl rfl ?_
  refine AOps.plainD hσ rfl rfl rfl rfl (c143 h1 h2) (VAs.self rfl) rfl rfl rfl rfl (B0 := 17000) rfl rfl ?_
  refine jf6 16 12 9 0 3 4 rfl rfl rfl rfl rfl rfl ?_
  refine AOps.heap (HS.litD hσ rfl rfl rfl rfl rfl rfl rfl rfl rfl rfl rfl) rfl ?_
  refine jf6 17 12 9 0 3 4 rfl rfl rfl rfl rfl rfl ?_
  refine AOps.heap (HS.appCopy (own := false) (zs := (ts.take (i + 1)).map Tm.cells) (n := i + 1) hσ rfl rfl rfl rfl rfl rfl rfl rfl rfl rfl rfl rfl rfl rfl rfl rfl (.row rfl (by simp; omega)) (.whole rfl rfl (.inr ⟨rfl, rfl⟩)) (by simp) rfl (by simp; omega) (by simp; omega) (by rw [List.take_succ_eq_append_getElem (by omega), List.map_append, Int.toNat_natCast, getD_lt (by omega)]; rfl) (by simp; omega)) rfl ?_
  refine jst hσ rfl rfl rfl rfl rfl ?_
  refine jf4 3 9 0 4 rfl rfl rfl rfl ?_
  refine jn ?_
  refine AWP.region ?_
  refine jst hσ rfl rfl rfl rfl rfl ?_
  first | refine jfi hσ rfl rfl rfl rfl rfl ?_ | refine jvf hσ rfl rfl rfl rfl rfl ?_
  refine jst hσ rfl rfl rfl rfl rfl ?_
  refine jf4 4 3 9 0 rfl rfl rfl rfl ?_
  refine jn ?_
  refine ⟨i + 1, (Ent.sel [18] (e' := [(0, _), (3, _), (4, _)]) rfl rfl ⟨rfl, rfl, rfl, trivial⟩ rfl).trans (Ent.sub2 18 900 rfl rfl), by omega, by omega⟩
 ·
  try simp only [jcs] at hc9
  refine AWP.exit ?_
  refine jsr ?_
  iterate 2 refine jst hσ rfl rfl rfl rfl rfl ?_
  refine jn ?_
  refine AWP.ret ?_
  obtain rfl : i = ts.length := by omega
  rw [List.take_length]
  refine ⟨.inl rfl, _, Ent.refl, _, rfl, [900], by decide, rfl, rfl, rfl⟩
theorem c91r {L : Nat} (h1 : 4096 ≤ L) (h2 : L ≤ 1073741824) {ts : List Tm} : MC Tryz.prog L 59 [atms ts] [] (Rows (.c (.rs 0 0 ts.length)) [drow ts]) := by
 refine MC.rows ?_
 have hσ := SGok (nt := 19) h1 (Nat.le_trans h2 (by decide))
 refine MC.body hσ Tryz.func59 (by kernel_rfl) rfl rfl (Nat.le_of_ble_eq_true rfl) (fun hF => ?_)
 have hl : ts.length ≤ L := by simpa [As.fact, A.fact, M.fact, D.fact, Ds.fact] using hF.1.1
 refine jsr ?_
 refine jst hσ rfl rfl rfl rfl rfl ?_
 refine jns ?_
 refine jst hσ rfl rfl rfl rfl rfl ?_
 refine jn ?_
 refine AWP.seq ?_
 refine jsr ?_
 refine jst hσ rfl rfl rfl rfl rfl ?_
 first | refine jle hσ rfl rfl rfl rfl rfl rfl rfl rfl rfl rfl rfl ?_ | refine jst hσ rfl rfl rfl rfl rfl ?_ | refine jvf hσ rfl rfl rfl rfl rfl ?_
 refine jst hσ rfl rfl rfl rfl rfl ?_
 refine jn ?_
 refine AWP.block ?_
 refine AWP.loopP (X := Nat) (fun i => ⟨[(3, .c (.rs 900 0 i)), (6, atms ts), (7, eI ts.length), (8, eI i)], [(900, drow (ts.take i))]⟩) (fun i => i ≤ ts.length) (fun i => ts.length - i) 0 ((Ent.nameNil 3 900 2 false rfl rfl).trans (Ent.to ⟨rfl, rfl, rfl, rfl, trivial⟩ rfl)) ?_ (fun i hi => ?_)
 ·
  exact Nat.zero_le _
 refine jsr ?_
 refine jst hσ rfl rfl rfl rfl rfl ?_
 refine jn ?_
 refine AWP.seq ?_
 refine AWP.cond hσ rfl rfl (fun hc9 => ?_) (fun hc9 => ?_)
 ·
  try simp only [jcs] at hc9
  refine AWP.skip ?_
  refine AWP.seq ?_
  refine AWP.block ?_
  refine jsr ?_
  first | refine jix hσ rfl rfl rfl rfl rfl rfl rfl rfl rfl rfl rfl ?_ | refine jvf hσ rfl rfl rfl rfl rfl ?_
  refine jst hσ rfl rfl rfl rfl rfl ?_
  refine jf6 11 9 3 6 7 8 rfl rfl rfl rfl rfl rfl ?_
  refine AOps.heap (HS.alloc hσ rfl rfl rfl rfl rfl) rfl ?_
  refine AOps.heap (HS.storeBox hσ rfl rfl rfl rfl rfl rfl rfl rfl rfl rfl rfl) rfl ?_
  refine jn ?_
  refine AWP.region ?_
  iterate 2 refine jst hσ rfl rfl rfl rfl rfl ?_
  refine AOps.plainD hσ rfl rfl rfl rfl (c148 h1 h2) (VAs.self rfl) rfl rfl rfl rfl (B0 := 15000) rfl rfl ?_
  refine jf9 14 12 5 11 9 3 6 7 8 rfl rfl rfl rfl rfl rfl rfl rfl rfl ?_
  refine AOps.heap (HS.litD hσ rfl rfl rfl rfl rfl rfl rfl rfl rfl rfl rfl) rfl ?_
  refine jf9 15 12 5 11 9 3 6 7 8 rfl rfl rfl rfl rfl rfl rfl rfl rfl ?_
  refine AOps.heap (HS.appCopy (own := false) (zs := (ts.take (i + 1)).map Tm.cells) (n := i + 1) hσ rfl rfl rfl rfl rfl rfl rfl rfl rfl rfl rfl rfl rfl rfl rfl rfl (.row rfl (by simp; omega)) (.whole rfl rfl (.inr ⟨rfl, rfl⟩)) (by simp) rfl (by simp; omega) (by simp; omega) (by rw [List.take_succ_eq_append_getElem (by omega), List.map_append, Int.toNat_natCast, getD_lt (by omega)]; rfl) (by simp; omega)) rfl ?_
  refine jst hσ rfl rfl rfl rfl rfl ?_
  refine jf7 3 5 11 9 6 7 8 rfl rfl rfl rfl rfl rfl rfl ?_
  refine jn ?_
  refine AWP.region ?_
  first | refine jfi hσ rfl rfl rfl rfl rfl ?_ | refine jvf hσ rfl rfl rfl rfl rfl ?_
  refine jst hσ rfl rfl rfl rfl rfl ?_
  refine jn ?_
  refine ⟨i + 1, (Ent.sel [16] (e' := [(3, _), (6, _), (7, _), (8, _)]) rfl rfl ⟨rfl, rfl, rfl, rfl, trivial⟩ rfl).trans (Ent.sub2 16 900 rfl rfl), by omega, by omega⟩
 ·
  try simp only [jcs] at hc9
  refine AWP.exit ?_
  refine jsr ?_
  iterate 2 refine jst hσ rfl rfl rfl rfl rfl ?_
  refine jn ?_
  refine AWP.ret ?_
  obtain rfl : i = ts.length := by omega
  rw [List.take_length]
  refine ⟨.inl rfl, _, Ent.refl, _, rfl, [900], by decide, rfl, rfl, rfl⟩
end Go.Al
namespace Go.Al
open Go.Proofs
set_option linter.unusedVariables false
set_option linter.unusedSimpArgs false
set_option maxRecDepth 10000
def trim (xs : List Int) : List Int := (xs.reverse.dropWhile (· == 0)).reverse
theorem trim_zero {xs : List Int} : trim (xs ++ [0]) = trim xs := by simp [trim]
theorem trim_keep {xs : List Int} {x : Int} (h : x ≠ 0) : trim (xs ++ [x]) = xs ++ [x] := by simp [trim, h]
theorem trim_succ {xs : List Int} {n : Nat} (h : n < xs.length) (h0 : xs.getD n default = 0) : trim (xs.take (n + 1)) = trim (xs.take n) := by
  rw [List.take_succ_eq_append_getElem h, ← getD_lt h, h0, trim_zero]
theorem trim_done {xs : List Int} {n : Nat} (hn : n ≤ xs.length) (h : n = 0 ∨ xs.getD (n - 1) default ≠ 0) : trim (xs.take n) = xs.take n := by
  cases n with
  | zero => simp [trim]
  | succ n =>
    have h' : xs.getD n default ≠ 0 := by
      rcases h with h | h
      · cases h
      · exact h
    rw [getD_lt (by omega)] at h'
    rw [List.take_succ_eq_append_getElem (by omega), trim_keep h']
def mkT (c : Int) (xs : List Int) : Tm × Bool := if (Tm.mk c (trim xs)).ok = true then (⟨c, trim xs⟩, true) else (⟨0, []⟩, false)
abbrev resTm (r : Tm × Bool) : A := .tup [aTm' r.1, eB r.2]
def sumL (a : Tm) (m : Int) (b : Tm) (n : Int) : List Int := (List.range 10).map fun i => m * a.xs.getD i 0 + n * b.xs.getD i 0
def sumT (a : Tm) (m : Int) (b : Tm) (n : Int) : Tm × Bool := mkT (m * a.c + n * b.c) (sumL a m b n)
def oppT (t : Tm) : Tm × Bool := sumT t (-1) ⟨1, []⟩ (-1)
/-- Coefficients that are not too great. -/
structure Small (t : Tm) : Prop where
  c : num t.c = true
  xs : t.xs.all num = true
theorem mul_num {a b : Int} (h1 : num a = true) (h2 : num b = true) : -1000000000000 ≤ a * b ∧ a * b ≤ 1000000000000 := by
  have h1 := num_iff.1 h1
  have h2 := num_iff.1 h2
  have h3 : a.natAbs ≤ 1000000 := by omega
  have h4 : b.natAbs ≤ 1000000 := by omega
  have h5 := Nat.mul_le_mul h3 h4
  rw [← Int.natAbs_mul] at h5
  omega
theorem Small.get {t : Tm} (h : Small t) (i : Nat) : num (t.xs.getD i 0) = true := by
  by_cases hi : i < t.xs.length
  · have : t.xs.getD i 0 = t.xs[i] := by simp [hi]
    rw [this]
    exact List.all_eq_true.1 h.xs _ (List.getElem_mem hi)
  · have : t.xs.getD i 0 = 0 := by simp [Nat.not_lt.1 hi]
    rw [this]; decide
theorem Small.of {t : Tm} (h : t.ok = true) : Small t := by
  simp only [Tm.ok, Bool.and_eq_true, Bool.not_eq_true'] at h
  refine ⟨?_, h.2⟩
  cases hn : num t.c with
  | true => rfl
  | false => rw [hn] at h; simp at h
theorem sumL_take {a b : Tm} {m n : Int} {i : Nat} (h : i < 10) : (sumL a m b n).take (i + 1) = (sumL a m b n).take i ++ [m * a.xs.getD i 0 + n * b.xs.getD i 0] := by
  rw [List.take_succ_eq_append_getElem (by simpa [sumL] using h)]
  simp [sumL]
theorem sumL_length {a b : Tm} {m n : Int} : (sumL a m b n).length = 10 := by simp [sumL]
theorem ok_len {t : Tm} (h : t.ok = true) : t.xs.length ≤ 10 := by
  simp only [Tm.ok, Bool.and_eq_true, Bool.not_eq_true'] at h
  by_cases h1 : (10 : Int) < t.xs.length
  · rw [decide_eq_true h1] at h
    cases num t.c <;> simp at h
  · omega

theorem c199 {L : Nat} (h1 : 4096 ≤ L) (h2 : L ≤ 1073741824) {c : Int} {xs : List Int} : MC Tryz.prog L 92 [eI c, aints xs] [] (Plain (resTm (mkT c xs))) := by
 refine MC.data ?_
 have hσ := SGok (nt := 32) h1 (Nat.le_trans h2 (by decide))
 refine MC.body hσ Tryz.func92 (by kernel_rfl) rfl rfl (Nat.le_of_ble_eq_true rfl) (fun hF => ?_)
 have hl : xs.length ≤ L := by simpa [As.fact, A.fact, M.fact, D.fact, Ds.fact] using hF.2.1.1
 refine jsr ?_
 refine AOps.heap (HS.alloc hσ rfl rfl rfl rfl rfl) rfl ?_
 refine jst hσ rfl rfl rfl rfl rfl ?_
 refine jns ?_
 refine jst hσ rfl rfl rfl rfl rfl ?_
 first | refine jle hσ rfl rfl rfl rfl rfl rfl rfl rfl rfl rfl rfl ?_ | refine jst hσ rfl rfl rfl rfl rfl ?_ | refine jvf hσ rfl rfl rfl rfl rfl ?_
 refine jst hσ rfl rfl rfl rfl rfl ?_
 refine jf5 6 5 4 0 1 rfl rfl rfl rfl rfl ?_
 refine jn ?_
 refine AWP.seq ?_
 refine AWP.block ?_
 refine AWP.loopP (X := Nat) (fun n => ⟨[(0, eI c), (1, aints xs), (4, .c (.pt 4 0 0)), (6, eI n)], [(4, .box [.d (.int .i64 0), .d .nils])]⟩) (fun n => n ≤ xs.length ∧ trim (xs.take n) = trim xs) (fun n => n) xs.length (Ent.env ⟨rfl, rfl, rfl, rfl, trivial⟩) ?_ (fun n hi => ?_)
 ·
  exact ⟨Nat.le_refl _, by rw [List.take_length]⟩
 refine AWP.seq ?_
 refine jsr ?_
 iterate 3 refine jst hσ rfl rfl rfl rfl rfl ?_
 refine jf5 12 0 1 4 6 rfl rfl rfl rfl rfl ?_
 refine AOps.gr 6 rfl rfl rfl (fun hx => AN.step hx rfl rfl rfl (Val.of hσ rfl rfl) rfl rfl ( AN.step hx rfl rfl rfl (Val.of hσ rfl rfl) rfl rfl ( AN.step hx rfl rfl rfl (Val.fits64 hσ rfl rfl (by first | omega | (simp at *; omega)) (by first | omega | (simp at *; omega))) rfl rfl ( AN.step hx rfl rfl rfl (Val.indexD hσ rfl rfl rfl rfl rfl rfl rfl rfl (by first | omega | (simp at *; omega)) (idx_get (by first | omega | (simp at *; omega)) (by first | omega | (simp at *; omega)))) rfl rfl ( AN.step hx rfl rfl rfl (Val.of hσ rfl rfl) rfl rfl ( AN.step hx rfl rfl rfl (Val.of hσ rfl rfl) rfl rfl ( AN.nil))))))) rfl rfl ?_
 first | refine AOps.step (Val.pickT hσ rfl rfl rfl rfl rfl) rfl rfl rfl ?_ | refine AOps.step (Val.pickF hσ rfl rfl rfl rfl rfl) rfl rfl rfl ?_ | refine AOps.step (Val.pickB hσ rfl rfl rfl rfl rfl) rfl rfl rfl ?_
 refine jf5 19 0 1 4 6 rfl rfl rfl rfl rfl ?_
 refine jn ?_
 refine AWP.cond hσ rfl rfl (fun hc19 => ?_) (fun hc19 => ?_)
 ·
  skip
  refine AWP.skip ?_
  refine AWP.block ?_
  refine AWP.region ?_
  refine jst hσ rfl rfl rfl rfl rfl ?_
  first | refine jfi hσ rfl rfl rfl rfl rfl ?_ | refine jvf hσ rfl rfl rfl rfl rfl ?_
  refine jst hσ rfl rfl rfl rfl rfl ?_
  refine jf5 6 19 0 1 4 rfl rfl rfl rfl rfl ?_
  refine jn ?_
  rw [Bool.cond_false_right, Bool.and_eq_true, decide_eq_true_eq, decide_eq_true_eq] at hc19
  obtain ⟨k, hk⟩ : ∃ k, n = k + 1 := ⟨n - 1, by omega⟩
  subst hk
  have hk2 : ((k + 1 : Nat) : Int) - 1 = k := by omega
  rw [hk2] at hc19
  refine ⟨k, Ent.to ⟨rfl, rfl, rfl, by rw [hk2]; rfl, trivial⟩ rfl, ⟨by omega, ?_⟩, Nat.lt_succ_self k⟩
  rw [← hi.2, trim_succ (by omega) (by simpa using hc19.2)]
 ·
  skip
  refine AWP.exit ?_
  refine jsr ?_
  iterate 3 refine jst hσ rfl rfl rfl rfl rfl ?_
  have hd : trim (xs.take n) = xs.take n := trim_done hi.1 (by
   rw [Bool.cond_false_right] at hc19
   rcases Nat.eq_zero_or_pos n with h0 | h0
   ·
    exact .inl h0
   ·
    refine .inr (fun h9 => ?_)
    have e1 : ((n : Int) - 1).toNat = n - 1 := by omega
    rw [e1, h9] at hc19; simp at hc19; omega)
  have ht := hi.2
  rw [hd] at ht
  refine AOps.step ((Val.vif hσ rfl rfl ⟨by omega, by simp; omega⟩).cast (v' := aints (trim xs)) (by rw [← ht]; simp [List.map_take])) rfl rfl rfl ?_
  refine jf7 25 22 19 0 1 4 6 rfl rfl rfl rfl rfl rfl rfl ?_
  refine AOps.plainD hσ rfl rfl rfl rfl (c151d (xs := trim xs) h1 h2) (VAs.self rfl) rfl rfl rfl rfl (B0 := 27000) rfl rfl ?_
  refine jst hσ rfl rfl rfl rfl rfl ?_
  refine jf6 27 19 0 1 4 6 rfl rfl rfl rfl rfl rfl ?_
  refine AOps.heap (HS.alloc hσ rfl rfl rfl rfl rfl) rfl ?_
  refine AOps.heap (HS.storeBox hσ rfl rfl rfl rfl rfl rfl rfl rfl rfl rfl rfl) rfl ?_
  refine jn ?_
  refine AWP.seq ?_
  refine jsr ?_
  refine AOps.lone hσ rfl rfl rfl rfl (c136 (t := ⟨c, trim xs⟩) h1 h2) (.cons (.c (.pb (cs := Tm.cells ⟨c, trim xs⟩) rfl (VMs.self rfl))) .nil) rfl rfl rfl rfl rfl (B0 := 29000) rfl ?_
  refine jst hσ rfl rfl rfl rfl rfl ?_
  refine jn ?_
  refine AWP.cond hσ rfl rfl (fun hc29 => ?_) (fun hc29 => ?_)
  ·
   skip
   refine jsr ?_
   refine jst hσ rfl rfl rfl rfl rfl ?_
   refine AOps.heap (HS.storeBox hσ rfl rfl rfl rfl rfl rfl rfl rfl rfl rfl rfl) rfl ?_
   refine jst hσ rfl rfl rfl rfl rfl ?_
   refine jn ?_
   refine AWP.ret ?_
   refine ⟨.inl rfl, _, Ent.refl, _, rfl, ?_⟩
   have hok : (Tm.mk c (trim xs)).ok = false := by simpa using hc29
   rw [show mkT c xs = (⟨0, []⟩, false) from if_neg (by rw [hok]; decide)]
   exact .tup (.cons (.agg (.cons .d (.cons .nils .nil))) (.cons (.c .d) .nil))
  ·
   skip
   refine AWP.skip ?_
   refine jsr ?_
   refine jst hσ rfl rfl rfl rfl rfl ?_
   refine AOps.heap (HS.storeBox hσ rfl rfl rfl rfl rfl rfl rfl rfl rfl rfl rfl) rfl ?_
   refine jst hσ rfl rfl rfl rfl rfl ?_
   refine jn ?_
   refine AWP.ret ?_
   refine ⟨.inl rfl, _, Ent.refl, _, rfl, ?_⟩
   have hok : (Tm.mk c (trim xs)).ok = true := by simpa using hc29
   rw [show mkT c xs = (⟨c, trim xs⟩, true) from if_pos hok]
   exact .tup (.cons (.agg (VMs.self rfl)) (.cons (.c .d) .nil))
theorem c208 {L : Nat} (h1 : 4096 ≤ L) (h2 : L ≤ 1073741824) {t : Tm} {i : Nat} (hi : i < 10) : MC Tryz.prog L 94 [ptr t.cells, eI i] [] (Plain (eI (t.xs.getD i 0))) := by
 refine MC.alone ?_ rfl
 have hσ := SGok (nt := 19) h1 (Nat.le_trans h2 (by decide))
 refine MC.body hσ Tryz.func94 (by kernel_rfl) rfl rfl (Nat.le_of_ble_eq_true rfl) (fun hF => ?_)
 have hl : t.xs.length ≤ L := by simpa [As.fact, A.fact, M.fact, D.fact, Ds.fact] using hF.1.2.1.1
 refine jsr ?_
 refine jst hσ rfl rfl rfl rfl rfl ?_
 refine jn ?_
 refine AWP.seq ?_
 refine jsr ?_
 iterate 5 refine jst hσ rfl rfl rfl rfl rfl ?_
 first | refine jle hσ rfl rfl rfl rfl rfl rfl rfl rfl rfl rfl rfl ?_ | refine jst hσ rfl rfl rfl rfl rfl ?_ | refine jvf hσ rfl rfl rfl rfl rfl ?_
 refine jst hσ rfl rfl rfl rfl rfl ?_
 refine jf4 11 4 0 1 rfl rfl rfl rfl ?_
 refine jn ?_
 refine AWP.cond hσ rfl rfl (fun hc11 => ?_) (fun hc11 => ?_)
 ·
  try simp only [jcs] at hc11
  refine jsr ?_
  iterate 5 refine jst hσ rfl rfl rfl rfl rfl ?_
  first | refine jix hσ rfl rfl rfl rfl rfl rfl rfl rfl rfl rfl rfl ?_ | refine jvf hσ rfl rfl rfl rfl rfl ?_
  iterate 2 refine jst hσ rfl rfl rfl rfl rfl ?_
  refine jf3 4 0 1 rfl rfl rfl ?_
  refine jn ?_
  refine AWP.ret ?_
  refine ⟨.inl rfl, _, Ent.refl, _, rfl, ?_⟩
  rw [Int.toNat_natCast]
  have : t.xs.getD i 0 = t.xs.getD i default := rfl
  rfl
 ·
  try simp only [jcs] at hc11
  refine AWP.skip ?_
  refine jsr ?_
  refine jst hσ rfl rfl rfl rfl rfl ?_
  refine jn ?_
  refine AWP.ret ?_
  refine ⟨.inl rfl, _, Ent.refl, _, rfl, ?_⟩
  have : t.xs.getD i 0 = 0 := by simp [show t.xs.length ≤ i by omega]
  rw [this]
theorem c197 {L : Nat} (h1 : 4096 ≤ L) (h2 : L ≤ 1073741824) {a b : Tm} {m n : Int} (ha : Small a) (hb : Small b) (hm : num m = true) (hn : num n = true) : MC Tryz.prog L 75 [ptr a.cells, eI m, ptr b.cells, eI n] [] (Plain (resTm (sumT a m b n))) := by
 refine MC.data ?_
 have hσ := SGok (nt := 48) h1 (Nat.le_trans h2 (by decide))
 refine MC.body hσ Tryz.func75 (by kernel_rfl) rfl rfl (Nat.le_of_ble_eq_true rfl) (fun hF => ?_)
 refine jsr ?_
 refine AOps.heap (HS.alloc hσ rfl rfl rfl rfl rfl) rfl ?_
 refine jst hσ rfl rfl rfl rfl rfl ?_
 refine jns ?_
 refine AOps.heap (HS.lit hσ rfl rfl rfl) rfl ?_
 refine jst hσ rfl rfl rfl rfl rfl ?_
 refine jn ?_
 refine AWP.seq ?_
 refine jsr ?_
 refine jst hσ rfl rfl rfl rfl rfl ?_
 refine jn ?_
 refine AWP.block ?_
 refine AWP.loopP (X := Nat) (fun i => ⟨[(0, ptr a.cells), (1, eI m), (2, ptr b.cells), (3, eI n), (8, .c (.pt 8 0 0)), (10, .c (.rs 900 0 i)), (11, eI i)], [(8, .box [.d (.int .i64 0), .d .nils]), (900, nrow ((sumL a m b n).take i))]⟩) (fun i => i ≤ 10) (fun i => 10 - i) 0 ((Ent.sub2 12 900 rfl rfl).trans (Ent.to ⟨rfl, rfl, rfl, rfl, rfl, rfl, rfl, trivial⟩ rfl)) ?_ (fun i hi => ?_)
 ·
  exact Nat.zero_le _
 refine AWP.seq ?_
 refine jsr ?_
 iterate 2 refine jst hσ rfl rfl rfl rfl rfl ?_
 refine jn ?_
 refine AWP.cond hσ rfl rfl (fun hc14 => ?_) (fun hc14 => ?_)
 ·
  try simp only [jcs] at hc14
  refine AWP.skip ?_
  refine AWP.seq ?_
  refine AWP.block ?_
  refine AWP.region ?_
  have q1 := mul_num hm (ha.get i)
  have q2 := mul_num hn (hb.get i)
  iterate 4 refine jst hσ rfl rfl rfl rfl rfl ?_
  refine AOps.lone hσ rfl rfl rfl rfl (c208 (t := a) (i := i) h1 h2 (by omega)) (VAs.self rfl) rfl rfl rfl rfl rfl (B0 := 22000) rfl ?_
  first | refine jfi hσ rfl rfl rfl rfl rfl ?_ | refine jvf hσ rfl rfl rfl rfl rfl ?_
  iterate 3 refine jst hσ rfl rfl rfl rfl rfl ?_
  refine jf14 25 24 23 22 17 14 13 0 1 2 3 8 10 11 rfl rfl rfl rfl rfl rfl rfl rfl rfl rfl rfl rfl rfl rfl ?_
  refine AOps.lone hσ rfl rfl rfl rfl (c208 (t := b) (i := i) h1 h2 (by omega)) (VAs.self rfl) rfl rfl rfl rfl rfl (B0 := 27000) rfl ?_
  first | refine jfi hσ rfl rfl rfl rfl rfl ?_ | refine jvf hσ rfl rfl rfl rfl rfl ?_
  first | refine jfi hσ rfl rfl rfl rfl rfl ?_ | refine jvf hσ rfl rfl rfl rfl rfl ?_
  refine jf11 28 17 14 13 0 1 2 3 8 10 11 rfl rfl rfl rfl rfl rfl rfl rfl rfl rfl rfl ?_
  refine AOps.heap (HS.lit hσ rfl rfl rfl) rfl ?_
  refine jf11 29 17 14 13 0 1 2 3 8 10 11 rfl rfl rfl rfl rfl rfl rfl rfl rfl rfl rfl ?_
  refine AOps.heap (HS.appMove (zs := ((sumL a m b n).take (i + 1)).map fun n => [.int .i64 n]) (n := i + 1) hσ rfl rfl rfl rfl rfl rfl rfl rfl rfl rfl rfl rfl rfl rfl rfl rfl (.row rfl (by simp [sumL_length]; omega)) rfl rfl (by decide) rfl (by simp [sumL_length]; omega) (by simp [sumL_length]; omega) (by rw [sumL_take (by omega), List.map_append]; rfl) (by simp [sumL_length]; omega)) rfl ?_
  refine jst hσ rfl rfl rfl rfl rfl ?_
  refine jf9 10 14 13 0 1 2 3 8 11 rfl rfl rfl rfl rfl rfl rfl rfl rfl ?_
  refine jn ?_
  refine AWP.region ?_
  refine jst hσ rfl rfl rfl rfl rfl ?_
  first | refine jfi hσ rfl rfl rfl rfl rfl ?_ | refine jvf hσ rfl rfl rfl rfl rfl ?_
  refine jst hσ rfl rfl rfl rfl rfl ?_
  refine jf9 11 10 14 13 0 1 2 3 8 rfl rfl rfl rfl rfl rfl rfl rfl rfl ?_
  refine jn ?_
  refine ⟨i + 1, ((Ent.sel [8, 30] (e' := [(0, _), (1, _), (2, _), (3, _), (8, _), (10, _), (11, _)]) rfl rfl ⟨rfl, rfl, rfl, rfl, rfl, rfl, rfl, trivial⟩ rfl).trans (Ent.sub2 30 900 rfl rfl)), by omega, by omega⟩
 ·
  try simp only [jcs] at hc14
  refine AWP.exit ?_
  refine AWP.seq ?_
  obtain rfl : i = 10 := by omega
  rw [List.take_of_length_le (by rw [sumL_length]; decide)]
  have q1 := mul_num hm ha.c
  have q2 := mul_num hn hb.c
  refine AWP.ent (Ent.freeze 900 (e' := [(10, _), (8, _), (0, _), (1, _), (2, _), (3, _)]) rfl (.cons rfl (.c (.row rfl (by simp [sumL_length]))) (.cons rfl (.keep rfl) (.cons rfl (.keep rfl) (.cons rfl (.keep rfl) (.cons rfl (.keep rfl) (.cons rfl (.keep rfl) .nil)))))) (.cons rfl (.box (.cons (.keep rfl) (.cons (.keep rfl) .nil))) (.skip .nil))) ?_
  refine AWP.drawR hσ _ [_, _, _, _, _, _, _, _, _, _, _, _, _, _, _, _, _, _, _] [⟨[], 0, 0, none⟩, ⟨[], 0, 0, none⟩, ⟨[1], 0, 0, none⟩, ⟨[1, 2], 0, 0, none⟩, ⟨[1, 2, 3], 0, 0, none⟩, ⟨[0, 1, 2, 3, 4], 0, 0, none⟩, ⟨[], 0, 0, none⟩, ⟨[], 0, 0, none⟩, ⟨[7], 0, 0, none⟩, ⟨[7, 8], 0, 0, none⟩, ⟨[7, 8, 9], 0, 0, none⟩, ⟨[6, 7, 8, 9, 10], 0, 0, none⟩, ⟨[0, 1, 2, 3, 4, 5, 6, 7, 8, 9, 10, 11], 0, 0, none⟩, ⟨[], 0, 0, none⟩, ⟨[0, 1, 2, 3, 4, 5, 6, 7, 8, 9, 10, 11, 12, 13], 0, 0, some 0⟩, ⟨[0, 1, 2, 3, 4, 5, 6, 7, 8, 9, 10, 11, 12, 13, 14], 1, 1, none⟩, ⟨[0, 1, 2, 3, 4, 5, 6, 7, 8, 9, 10, 11, 12, 13, 14], 1, 1, none⟩, ⟨[0, 1, 2, 3, 4, 5, 6, 7, 8, 9, 10, 11, 12, 13, 14, 15, 16], 0, 0, some 1⟩, ⟨[0, 1, 2, 3, 4, 5, 6, 7, 8, 9, 10, 11, 12, 13, 14, 15, 16, 17], 2, 2, none⟩] [14, 17] [_, _, _] rfl rfl (by decide) (by decide) (by kernel_rfl) (And.intro (Val.of hσ rfl rfl) (And.intro (Val.of hσ rfl rfl) (And.intro (Val.of hσ rfl rfl) (And.intro (Val.of hσ rfl rfl) (And.intro (Val.of hσ rfl rfl) (And.intro (Val.fits64 hσ rfl rfl (by first | omega | (simp at *; omega)) (by first | omega | (simp at *; omega))) (And.intro (Val.of hσ rfl rfl) (And.intro (Val.of hσ rfl rfl) (And.intro (Val.of hσ rfl rfl) (And.intro (Val.of hσ rfl rfl) (And.intro (Val.of hσ rfl rfl) (And.intro (Val.fits64 hσ rfl rfl (by first | omega | (simp at *; omega)) (by first | omega | (simp at *; omega))) (And.intro (Val.fits64 hσ rfl rfl (by first | omega | (simp at *; omega)) (by first | omega | (simp at *; omega))) (And.intro (Val.of hσ rfl rfl) (And.intro (Eff.plainD hσ (B0 := 46000) rfl rfl rfl rfl (c199 (c := m * a.c + n * b.c) (xs := sumL a m b n) h1 h2) (VAs.self rfl) rfl rfl rfl rfl rfl) (And.intro (Val.of hσ rfl rfl) (And.intro (Val.of hσ rfl rfl) (And.intro (Eff.storeBox hσ rfl rfl rfl rfl rfl rfl rfl rfl rfl rfl rfl rfl rfl) (And.intro (Val.of hσ rfl rfl) trivial))))))))))))))))))) ?_
  refine AWP.forget [(9, _), (10, _), (8, _), (0, _), (1, _), (2, _), (3, _)] ⟨rfl, rfl, rfl, rfl, rfl, rfl, rfl, trivial⟩ ?_
  refine jnw ?_
  refine AWP.ret ?_
  refine ⟨.inl rfl, _, Ent.refl, _, rfl, ?_⟩
  exact .tup (.cons (.agg (VMs.self rfl)) (.cons (.c .d) .nil))
theorem c181 {L : Nat} (h1 : 4096 ≤ L) (h2 : L ≤ 1073741824) {t : Tm} (ht : Small t) : MC Tryz.prog L 53 [ptr t.cells] [] (Plain (resTm (oppT t))) := by
 refine MC.data ?_
 have hσ := SGok (nt := 10) h1 (Nat.le_trans h2 (by decide))
 refine MC.body hσ Tryz.func53 (by kernel_rfl) rfl rfl (Nat.le_of_ble_eq_true rfl) (fun hF => ?_)
 refine jsr ?_
 refine AOps.heap (HS.alloc hσ rfl rfl rfl rfl rfl) rfl ?_
 refine jst hσ rfl rfl rfl rfl rfl ?_
 refine jns ?_
 iterate 2 refine jst hσ rfl rfl rfl rfl rfl ?_
 refine jf4 5 4 3 2 rfl rfl rfl rfl ?_
 refine AOps.heap (HS.box hσ rfl rfl rfl rfl rfl rfl rfl) rfl ?_
 refine jf4 6 4 3 2 rfl rfl rfl rfl ?_
 refine AOps.to (Ent.freeze 6 (e' := [(6, _), (4, _), (2, _)]) rfl (.cons rfl (.c (.box (cs := Tm.cells ⟨1, []⟩) rfl (.cons .d (.cons .nils .nil)))) (.cons rfl (.keep rfl) (.cons rfl (.keep rfl) .nil))) (.cons rfl (.box (.cons (.keep rfl) (.cons (.keep rfl) .nil))) (.skip .nil))) ?_
 refine AOps.plainD hσ rfl rfl rfl rfl (c197 (a := t) (m := -1) (b := ⟨1, []⟩) (n := -1) h1 h2 ht ⟨by decide, by decide⟩ (by decide) (by decide)) (VAs.self rfl) rfl rfl rfl rfl (B0 := 8000) rfl rfl ?_
 iterate 2 refine jst hσ rfl rfl rfl rfl rfl ?_
 refine jf3 9 8 2 rfl rfl rfl ?_
 refine AOps.heap (HS.storeBox hσ rfl rfl rfl rfl rfl rfl rfl rfl rfl rfl rfl) rfl ?_
 refine jst hσ rfl rfl rfl rfl rfl ?_
 refine AOps.forget [(3, _), (2, _)] ⟨rfl, rfl, trivial⟩ ?_
 refine jn ?_
 refine AWP.ret ?_
 refine ⟨.inl rfl, _, Ent.refl, _, rfl, ?_⟩
 exact .tup (.cons (.agg (VMs.self rfl)) (.cons (.c .d) .nil))
def ctxS (s : Sq) : List Tm × Bool := if (oppT s.goal).2 = true then (s.facts ++ [(oppT s.goal).1], true) else ([], false)
abbrev resC (r : List Tm × Bool) : A := .tup [atms r.1, eB r.2]
theorem c139 {L : Nat} (h1 : 4096 ≤ L) (h2 : L ≤ 1073741824) {s : Sq} (hg : Small s.goal) (hn : s.facts.length ≤ 1000) : MC Tryz.prog L 48 [ptr s.cells] [] (Plain (resC (ctxS s))) := by
 refine MC.data ?_
 have hσ := SGok (nt := 23) h1 (Nat.le_trans h2 (by decide))
 refine MC.body hσ Tryz.func48 (by kernel_rfl) rfl rfl (Nat.le_of_ble_eq_true rfl) (fun hF => ?_)
 refine jsr ?_
 iterate 2 refine jst hσ rfl rfl rfl rfl rfl ?_
 refine jns ?_
 iterate 3 refine jst hσ rfl rfl rfl rfl rfl ?_
 refine jf4 9 3 2 0 rfl rfl rfl rfl ?_
 refine AOps.plainD hσ rfl rfl rfl rfl (c181 (t := s.goal) h1 h2 hg) (.cons (.c (.sub rfl)) .nil) rfl rfl rfl rfl (B0 := 11000) rfl rfl ?_
 iterate 3 refine jst hσ rfl rfl rfl rfl rfl ?_
 refine jf5 12 11 3 2 0 rfl rfl rfl rfl rfl ?_
 refine AOps.heap (HS.alloc hσ rfl rfl rfl rfl rfl) rfl ?_
 refine AOps.heap (HS.storeBox hσ rfl rfl rfl rfl rfl rfl rfl rfl rfl rfl rfl) rfl ?_
 refine jst hσ rfl rfl rfl rfl rfl ?_
 refine jf5 5 4 3 2 0 rfl rfl rfl rfl rfl ?_
 refine jn ?_
 refine AWP.seq ?_
 refine jsr ?_
 iterate 2 refine jst hσ rfl rfl rfl rfl rfl ?_
 refine jf5 14 4 3 2 0 rfl rfl rfl rfl rfl ?_
 refine jn ?_
 refine AWP.cond hσ rfl rfl (fun hc14 => ?_) (fun hc14 => ?_)
 ·
  try simp only [jcs] at hc14
  refine jsr ?_
  iterate 2 refine jst hσ rfl rfl rfl rfl rfl ?_
  refine jn ?_
  refine AWP.ret ?_
  refine ⟨.inl rfl, _, Ent.refl, _, rfl, ?_⟩
  have hok : (oppT s.goal).2 = false := hc14
  rw [show ctxS s = ([], false) from if_neg (by rw [hok]; decide)]
  exact .tup (.cons (.c .nils) (.cons (.c .d) .nil))
 ·
  try simp only [jcs] at hc14
  refine AWP.skip ?_
  refine AWP.seq ?_
  refine AWP.forget [(4, _), (0, _)] ⟨rfl, rfl, trivial⟩ ?_
  refine AWP.drawF2 hσ _ [_, _, _, _, _, _, _, _, _, _] [⟨[], 0, 0, none⟩, ⟨[0], 0, 0, none⟩, ⟨[0, 1], 0, 0, none⟩, ⟨[0, 1, 2], 0, 0, none⟩, ⟨[0, 1, 2, 3], 0, 0, some 0⟩, ⟨[], 0, 1, none⟩, ⟨[5], 0, 1, none⟩, ⟨[0, 1, 2, 3, 4, 5, 6], 0, 0, some 1⟩, ⟨[0, 1, 2, 3, 4, 5, 6, 7], 2, 2, none⟩, ⟨[0, 1, 2, 3, 4, 5, 6, 7, 8], 2, 2, none⟩] [4, 7] 6 21 (.row false 2 [Tm.cells (oppT s.goal).1]) [_, _] [_] [[], [20000]] rfl rfl (by decide) (by decide) (by decide) rfl (by kernel_rfl) (And.intro (And.intro (and_flip (Val.of hσ rfl rfl) (Val.of hσ rfl rfl)) rfl) (And.intro (And.intro (and_flip (Val.of hσ rfl rfl) (Val.of hσ rfl rfl)) rfl) (And.intro (And.intro (and_flip (Val.of hσ rfl rfl) (Val.of hσ rfl rfl)) rfl) (And.intro (And.intro (and_flip (Val.of hσ rfl rfl) (Val.of hσ rfl rfl)) rfl) (And.intro (And.intro (and_flip (Eff.p (Eff.rowsD hσ (B0 := 20000) rfl rfl rfl rfl (c86r (ts := s.facts) h1 h2) (VAs.self rfl) rfl rfl rfl rfl)) (Eff.p (Eff.rowsD hσ (B0 := 20000) rfl rfl rfl rfl (c86r (ts := s.facts) h1 h2) (VAs.self rfl) rfl rfl rfl rfl))) rfl) (And.intro (And.intro (And.intro (and_flip (Val.of hσ rfl rfl) (Val.of hσ rfl rfl)) rfl) (And.intro (and_flip (Val.of hσ rfl rfl) (Val.of hσ rfl rfl)) rfl)) (And.intro (And.intro (And.intro (Eff.p (Eff.litD hσ rfl rfl rfl rfl rfl rfl rfl rfl rfl rfl rfl rfl rfl rfl)) rfl) (And.intro (Eff.p (Eff.litD hσ rfl rfl rfl rfl rfl rfl rfl rfl rfl rfl rfl rfl rfl rfl)) rfl)) (And.intro (And.intro (and_flip trivial (Eff.appCopy (own := false) (xs := s.facts.map Tm.cells) (ys := [Tm.cells (oppT s.goal).1]) (zs := (s.facts ++ [(oppT s.goal).1]).map Tm.cells) (n := (s.facts ++ [(oppT s.goal).1]).length) hσ rfl rfl rfl rfl rfl rfl rfl rfl rfl rfl rfl rfl rfl rfl rfl rfl (.row rfl (List.length_map _).symm) (.whole rfl rfl (.inr ⟨rfl, rfl⟩)) (by simp) rfl (by simp; omega) (by simp; omega) (by simp) (by simp) rfl)) rfl) (And.intro (And.intro (and_flip trivial (Val.of hσ rfl rfl)) rfl) (And.intro (And.intro (and_flip trivial (Val.of hσ rfl rfl)) rfl) trivial)))))))))) ?_
  refine AWP.forget [(3, _), (2, _), (4, _), (0, _)] ⟨rfl, rfl, rfl, rfl, trivial⟩ ?_
  refine jnw ?_
  refine AWP.ret ?_
  refine ⟨.inl rfl, _, Ent.refl, _, rfl, ?_⟩
  have hok : (oppT s.goal).2 = true := hc14
  rw [show ctxS s = (s.facts ++ [(oppT s.goal).1], true) from if_pos hok]
  exact .tup (.cons (.c (.whole rfl (List.length_map _).symm)) (.cons (.c .d) .nil))
end Go.Al
namespace Go.Al
open Go.Proofs
set_option linter.unusedVariables false
set_option linter.unusedSimpArgs false
set_option maxRecDepth 10000
def allOk (ts : List Tm) (n : Int) : Bool := ts.all Tm.ok && decide ((ts.length : Int) ≤ n)
def seqB (s : Sq) : Bool := allOk s.facts 13 && s.goal.ok
def co (x : Int) : Bool := decide (0 ≤ x) && decide (x ≤ 1000000)
def mulB (xs : List Int) : Bool := xs.all co && decide ((xs.length : Int) ≤ 20)
def ndB (n : Nd) : Bool := if n.kind = 1 then (decide (n.fact = 0) && n.term.zero) && mulB n.mul else if n.kind = 2 then (decide (n.fact = 0) && n.term.ok) && decide ((n.mul.length : Int) = 0) else if n.kind = 3 then (inB 0 19 n.fact && n.term.zero) && decide ((n.mul.length : Int) = 0) else false
def dl (k : Int) : Int := if k = 1 then -1 else if k = 2 then 1 else 0
/-- How many nodes a proof has that needs so many parts. -/
def endK : List Nd → Int → Option Nat
  | [], need => if need ≤ 0 then some 0 else none
  | s :: r, need => if need ≤ 0 then some 0 else (endK r (need + dl s.kind)).map (· + 1)
def endP (p : List Nd) (k : Nat) : Int := match endK (p.drop k) 1 with
  | some n => k + n
  | none => -1
def isB (p : List Nd) : Bool := (decide ((1 : Int) ≤ p.length) && decide ((p.length : Int) ≤ 60)) && (p.all ndB && decide (endP p 0 = p.length))
def par (p : List Nd) (k : Nat) : Nat → Int × Bool
  | 0 => (-1, false)
  | i + 1 => if (p.getD i default).kind = 1 ∨ endP p i ≤ k then par p k i else (i, decide (i + 1 = k))
theorem c135 {L : Nat} (h1 : 4096 ≤ L) (h2 : L ≤ 1073741824) {ts : List Tm} {n : Int} : MC Tryz.prog L 46 [atms ts, eI n] [] (Plain (eB (allOk ts n))) := by
 refine MC.alone ?_ rfl
 have hσ := SGok (nt := 21) h1 (Nat.le_trans h2 (by decide))
 refine MC.body hσ Tryz.func46 (by kernel_rfl) rfl rfl (Nat.le_of_ble_eq_true rfl) (fun hF => ?_)
 have hl : ts.length ≤ L := by simpa [As.fact, A.fact, M.fact, D.fact, Ds.fact] using hF.1.1
 refine jsr ?_
 refine jst hσ rfl rfl rfl rfl rfl ?_
 refine jn ?_
 refine AWP.seq ?_
 refine jsr ?_
 refine jst hσ rfl rfl rfl rfl rfl ?_
 refine jn ?_
 refine AWP.block ?_
 refine AWP.loopP (X := Nat) (fun i => ⟨[(0, atms ts), (1, eI n), (5, eI i)], []⟩) (fun i => i ≤ ts.length ∧ ∀ j (h : j < ts.length), j < i → Tm.ok ts[j] = true) (fun i => ts.length - i) 0 (Ent.env ⟨rfl, rfl, rfl, trivial⟩) ?_ (fun i hi => ?_)
 ·
  exact ⟨Nat.zero_le _, fun j h hj => absurd hj (Nat.not_lt_zero j)⟩
 refine AWP.seq ?_
 refine jsr ?_
 iterate 2 refine jst hσ rfl rfl rfl rfl rfl ?_
 first | refine jle hσ rfl rfl rfl rfl rfl rfl rfl rfl rfl rfl rfl ?_ | refine jst hσ rfl rfl rfl rfl rfl ?_ | refine jvf hσ rfl rfl rfl rfl rfl ?_
 refine jst hσ rfl rfl rfl rfl rfl ?_
 refine jn ?_
 refine AWP.cond hσ rfl rfl (fun hc9 => ?_) (fun hc9 => ?_)
 ·
  try simp only [jcs] at hc9
  refine AWP.skip ?_
  refine AWP.seq ?_
  refine AWP.block ?_
  refine jsr ?_
  iterate 2 refine jst hσ rfl rfl rfl rfl rfl ?_
  first | refine jix hσ rfl rfl rfl rfl rfl rfl rfl rfl rfl rfl rfl ?_ | refine jvf hσ rfl rfl rfl rfl rfl ?_
  refine AOps.lone hσ rfl rfl rfl rfl (c136 h1 h2) (VAs.self rfl) rfl rfl rfl rfl rfl (B0 := 16000) rfl ?_
  refine jst hσ rfl rfl rfl rfl rfl ?_
  refine jn ?_
  refine AWP.cond hσ rfl rfl (fun hc16 => ?_) (fun hc16 => ?_)
  ·
   try simp only [jcs] at hc16
   refine jsr ?_
   refine jst hσ rfl rfl rfl rfl rfl ?_
   refine jn ?_
   refine AWP.ret ?_
   refine ⟨.inl rfl, _, Ent.refl, _, rfl, ?_⟩
   rw [Int.toNat_natCast, getD_lt (by omega)] at hc16
   rw [allOk, all_not i (by omega) hc16, Bool.false_and]
  ·
   try simp only [jcs] at hc16
   refine AWP.skip ?_
   refine AWP.region ?_
   refine jst hσ rfl rfl rfl rfl rfl ?_
   first | refine jfi hσ rfl rfl rfl rfl rfl ?_ | refine jvf hσ rfl rfl rfl rfl rfl ?_
   refine jst hσ rfl rfl rfl rfl rfl ?_
   refine jn ?_
   refine ⟨i + 1, Ent.env ⟨rfl, rfl, rfl, trivial⟩, ⟨by omega, fun j h hj => ?_⟩, by omega⟩
   by_cases e : j = i
   ·
    subst e; rw [Int.toNat_natCast, getD_lt h] at hc16; exact hc16
   ·
    exact hi.2 j h (by omega)
 ·
  try simp only [jcs] at hc9
  refine AWP.exit ?_
  refine jsr ?_
  refine jst hσ rfl rfl rfl rfl rfl ?_
  first | refine jle hσ rfl rfl rfl rfl rfl rfl rfl rfl rfl rfl rfl ?_ | refine jst hσ rfl rfl rfl rfl rfl ?_ | refine jvf hσ rfl rfl rfl rfl rfl ?_
  iterate 3 refine jst hσ rfl rfl rfl rfl rfl ?_
  refine jn ?_
  refine AWP.ret ?_
  refine ⟨.inl rfl, _, Ent.refl, _, rfl, ?_⟩
  rw [allOk, all_of (fun j hj => hi.2 j hj (by omega)), Bool.true_and]
theorem c82 {L : Nat} (h1 : 4096 ≤ L) (h2 : L ≤ 1073741824) {s : Sq} : MC Tryz.prog L 29 [ptr s.cells] [] (Plain (eB (seqB s))) := by
 refine MC.alone ?_ rfl
 have hσ := SGok (nt := 14) h1 (Nat.le_trans h2 (by decide))
 refine MC.body hσ Tryz.func29 (by kernel_rfl) rfl rfl (Nat.le_of_ble_eq_true rfl) (fun hF => ?_)
 refine jsr ?_
 refine jst hσ rfl rfl rfl rfl rfl ?_
 refine jns ?_
 iterate 4 refine jst hσ rfl rfl rfl rfl rfl ?_
 refine AOps.reset [(6, _), (2, _), (0, _)] [] ⟨rfl, rfl, rfl, trivial⟩ rfl ?_
 refine AOps.lone hσ rfl rfl rfl rfl (c135 h1 h2) (VAs.self rfl) rfl rfl rfl rfl rfl (B0 := 8000) rfl ?_
 refine jst hσ rfl rfl rfl rfl rfl ?_
 refine AOps.reset [(8, _), (2, _), (0, _)] [] ⟨rfl, rfl, rfl, trivial⟩ rfl ?_
 refine AOps.gr 4 rfl rfl rfl (fun hx => AN.step hx rfl rfl rfl (Val.of hσ rfl rfl) rfl rfl ( AN.step hx rfl rfl rfl (Val.of hσ rfl rfl) rfl rfl ( AN.step hx rfl rfl rfl (Val.of hσ rfl rfl) rfl rfl ( AN.lone hσ hx rfl rfl rfl rfl (c136 (t := s.goal) h1 h2) (.cons (.c (.sub rfl)) .nil) rfl rfl rfl rfl rfl rfl rfl (B0 := 13000) rfl ( AN.nil))))) rfl rfl ?_
 first | refine AOps.step (Val.pickT hσ rfl rfl rfl rfl rfl) rfl rfl rfl ?_ | refine AOps.step (Val.pickF hσ rfl rfl rfl rfl rfl) rfl rfl rfl ?_ | refine AOps.step (Val.pickB hσ rfl rfl rfl rfl rfl) rfl rfl rfl ?_
 refine jst hσ rfl rfl rfl rfl rfl ?_
 refine AOps.forget [(2, _)] ⟨rfl, trivial⟩ ?_
 refine jn ?_
 refine AWP.ret ?_
 refine ⟨.inl rfl, _, Ent.refl, _, rfl, ?_⟩
 rw [Bool.cond_false_right]; rfl
end Go.Al
namespace Go.Al
open Go.Proofs
set_option linter.unusedVariables false
set_option linter.unusedSimpArgs false
set_option maxRecDepth 10000
def gcdL (xs : List Int) : Nat := xs.foldl (fun g x => Nat.gcd g x.natAbs) 0
theorem gcdL_succ {xs : List Int} {i : Nat} (h : i < xs.length) : gcdL (xs.take (i + 1)) = Nat.gcd (gcdL (xs.take i)) (xs.getD i default).natAbs := by
  rw [List.take_succ_eq_append_getElem h, gcdL, List.foldl_append, getD_lt h]; rfl
theorem gcdL_le {xs : List Int} (h : xs.all num = true) : ∀ {i : Nat}, i ≤ xs.length → gcdL (xs.take i) ≤ 1000000
  | 0, _ => by simp [gcdL]
  | i + 1, hi => by
    rw [gcdL_succ (by omega)]
    have ih := gcdL_le h (i := i) (by omega)
    have hx := num_iff.1 (List.all_eq_true.1 h _ (List.getElem_mem (show i < xs.length by omega)))
    rw [← getD_lt (by omega)] at hx
    by_cases h0 : (xs.getD i default).natAbs = 0
    · rw [h0, Nat.gcd_zero_right]; exact ih
    · have := Nat.gcd_le_right (gcdL (xs.take i)) (Nat.pos_of_ne_zero h0)
      omega
def mx (a b : Int) : Int := if a > b then a else b
theorem mx_abs (x : Int) : mx x (0 - x) = (x.natAbs : Int) := by unfold mx; split <;> omega
def tightS (t : Tm) : Tm × Bool := if gcdL t.xs < 2 then (⟨0, []⟩, false) else
  mkT (if t.c.tmod (gcdL t.xs) < 0 then t.c.tdiv (gcdL t.xs) - 1 else t.c.tdiv (gcdL t.xs)) (t.xs.map fun x => x.tdiv (gcdL t.xs))
theorem tdiv_in {a b : Int} (h : -1000000 ≤ a ∧ a ≤ 1000000) : -1000000 ≤ a.tdiv b ∧ a.tdiv b ≤ 1000000 := by
  have h1 : (a.tdiv b).natAbs ≤ a.natAbs := by rw [Int.natAbs_tdiv]; exact Nat.div_le_self _ _
  omega
theorem tmod_in {a b : Int} (h : -1000000 ≤ a ∧ a ≤ 1000000) : -1000000 ≤ a.tmod b ∧ a.tmod b ≤ 1000000 := by
  have h1 : (a.tmod b).natAbs ≤ a.natAbs := by rw [Int.natAbs_tmod]; exact Nat.mod_le _ _
  omega
def belowS (n : Nd) (ctx : List Tm) (first : Bool) : List Tm := if n.kind = 3 then ctx ++ [(tightS (ctx.getD n.fact.toNat default)).1] else if first = true then ctx ++ [n.term] else ctx ++ [(oppT n.term).1]
def dotG (f : Tm → Int) : List Tm → List Int → Int
  | t :: ts, m :: ms => m * f t + dotG f ts ms
  | _, _ => 0
theorem dotG_succ {f : Tm → Int} : ∀ {ts : List Tm} {ms : List Int} {i : Nat}, i < ts.length → i < ms.length → dotG f (ts.take (i + 1)) (ms.take (i + 1)) = dotG f (ts.take i) (ms.take i) + ms.getD i default * f (ts.getD i default)
  | [], _, i, h, _ => by simp at h
  | _ :: _, [], i, _, h => by simp at h
  | x :: xs, y :: ys, 0, _, _ => by simp [dotG]
  | x :: xs, y :: ys, i + 1, h1, h2 => by
    have := dotG_succ (f := f) (ts := xs) (ms := ys) (i := i) (by simpa using h1) (by simpa using h2)
    simp only [List.take_succ_cons, dotG, List.getD_cons_succ] at this ⊢
    omega
theorem dotG_in {f : Tm → Int} {ts : List Tm} {ms : List Int} (hf : ∀ t ∈ ts, num (f t) = true) (hm : ms.all num = true) : ∀ {i : Nat}, i ≤ ts.length → i ≤ ms.length → -(i * 1000000000000 : Int) ≤ dotG f (ts.take i) (ms.take i) ∧ dotG f (ts.take i) (ms.take i) ≤ i * 1000000000000
  | 0, _, _ => by simp [dotG]
  | i + 1, h1, h2 => by
    have ih := dotG_in hf hm (i := i) (by omega) (by omega)
    rw [dotG_succ (by omega) (by omega)]
    have a1 := hf _ (List.getElem_mem (show i < ts.length by omega))
    have a2 := List.all_eq_true.1 hm _ (List.getElem_mem (show i < ms.length by omega))
    have := mul_num a2 a1
    rw [getD_lt (by omega), getD_lt (by omega)]
    omega
abbrev colF (k : Nat) : Tm → Int := fun t => t.xs.getD k 0
def colsL (ts : List Tm) (ms : List Int) : List Int := (List.range 10).map fun k => dotG (colF k) ts ms
def closesB (ctx : List Tm) (ms : List Int) : Bool := decide (ctx.length = ms.length) && ((colsL ctx ms).all (fun x => decide (x = 0)) && decide (dotG Tm.c ctx ms < 0))
def rightB (n : Nd) (ctx : List Tm) : Bool := if n.kind = 1 then closesB ctx n.mul else if 20 ≤ ctx.length then false else if n.kind = 2 then (oppT n.term).2 else if n.fact ≥ ctx.length then false else (tightS (ctx.getD n.fact.toNat default)).2

theorem c209 {L : Nat} (h1 : 4096 ≤ L) (h2 : L ≤ 1073741824) {a b : Int} : MC Tryz.prog L 93 [eI a, eI b] [] (Plain (eI (mx a b))) := by
 refine MC.alone ?_ rfl
 have hσ := SGok (nt := 10) h1 (Nat.le_trans h2 (by decide))
 refine MC.body hσ Tryz.func93 (by kernel_rfl) rfl rfl (Nat.le_of_ble_eq_true rfl) (fun hF => ?_)
 refine jsr ?_
 refine jst hσ rfl rfl rfl rfl rfl ?_
 refine jn ?_
 refine AWP.seq ?_
 refine jsr ?_
 iterate 3 refine jst hσ rfl rfl rfl rfl rfl ?_
 refine jn ?_
 refine AWP.cond hσ rfl rfl (fun hc7 => ?_) (fun hc7 => ?_)
 ·
  try simp only [jcs] at hc7
  refine jsr ?_
  iterate 2 refine jst hσ rfl rfl rfl rfl rfl ?_
  refine jn ?_
  refine AWP.ret ?_
  refine ⟨.inl rfl, _, Ent.refl, _, rfl, ?_⟩
  rw [mx, if_pos hc7]
 ·
  try simp only [jcs] at hc7
  refine AWP.skip ?_
  refine jsr ?_
  iterate 2 refine jst hσ rfl rfl rfl rfl rfl ?_
  refine jn ?_
  refine AWP.ret ?_
  refine ⟨.inl rfl, _, Ent.refl, _, rfl, ?_⟩
  rw [mx, if_neg (by omega)]
theorem c198 {L : Nat} (h1 : 4096 ≤ L) (h2 : L ≤ 1073741824) {t : Tm} (ht : t.xs.all num = true) : MC Tryz.prog L 74 [ptr t.cells] [] (Plain (eI (gcdL t.xs))) := by
 refine MC.alone ?_ rfl
 have hσ := SGok (nt := 40) h1 (Nat.le_trans h2 (by decide))
 refine MC.body hσ Tryz.func74 (by kernel_rfl) rfl rfl (Nat.le_of_ble_eq_true rfl) (fun hF => ?_)
 have hl : t.xs.length ≤ L := by simpa [As.fact, A.fact, M.fact, D.fact, Ds.fact] using hF.1.2.1.1
 refine jsr ?_
 refine jst hσ rfl rfl rfl rfl rfl ?_
 refine jns ?_
 refine jst hσ rfl rfl rfl rfl rfl ?_
 refine jn ?_
 refine AWP.seq ?_
 refine jsr ?_
 refine jst hσ rfl rfl rfl rfl rfl ?_
 refine jn ?_
 refine AWP.block ?_
 refine AWP.loopP (X := Nat) (fun i => ⟨[(0, ptr t.cells), (3, eI (gcdL (t.xs.take i))), (4, eI i)], []⟩) (fun i => i ≤ t.xs.length) (fun i => t.xs.length - i) 0 (Ent.env ⟨rfl, rfl, rfl, trivial⟩) ?_ (fun i hi => ?_)
 ·
  exact Nat.zero_le _
 refine AWP.seq ?_
 refine jsr ?_
 iterate 5 refine jst hσ rfl rfl rfl rfl rfl ?_
 first | refine jle hσ rfl rfl rfl rfl rfl rfl rfl rfl rfl rfl rfl ?_ | refine jst hσ rfl rfl rfl rfl rfl ?_ | refine jvf hσ rfl rfl rfl rfl rfl ?_
 refine jst hσ rfl rfl rfl rfl rfl ?_
 refine jf4 13 0 3 4 rfl rfl rfl rfl ?_
 refine jn ?_
 refine AWP.cond hσ rfl rfl (fun hc13 => ?_) (fun hc13 => ?_)
 ·
  try simp only [jcs] at hc13
  refine AWP.skip ?_
  refine AWP.seq ?_
  refine AWP.block ?_
  refine AWP.seq ?_
  have hi0 := hi
  have hx := num_iff.1 (List.all_eq_true.1 ht _ (List.getElem_mem (show i < t.xs.length by omega)))
  rw [← getD_lt (by omega)] at hx
  have hgs := gcdL_succ (xs := t.xs) (i := i) (by omega)
  have hgl := gcdL_le ht hi
  have hmx := mx_abs (t.xs.getD i default)
  refine AWP.drawR hσ _ [_, _, _, _, _, _, _, _, _, _, _, _, _, _, _, _, _] [⟨[], 0, 0, none⟩, ⟨[0], 0, 0, none⟩, ⟨[0, 1], 0, 0, none⟩, ⟨[0, 1, 2], 0, 0, none⟩, ⟨[], 0, 0, none⟩, ⟨[0, 1, 2, 3, 4], 0, 0, none⟩, ⟨[0, 1, 2, 3, 4, 5], 0, 0, none⟩, ⟨[], 0, 0, none⟩, ⟨[7], 0, 0, none⟩, ⟨[7, 8], 0, 0, none⟩, ⟨[7, 8, 9], 0, 0, none⟩, ⟨[], 0, 0, none⟩, ⟨[7, 8, 9, 10, 11], 0, 0, none⟩, ⟨[7, 8, 9, 10, 11, 12], 0, 0, none⟩, ⟨[7, 8, 9, 10, 11, 12, 13], 0, 0, none⟩, ⟨[0, 1, 2, 3, 4, 5, 6, 7, 8, 9, 10, 11, 12, 13, 14], 0, 0, some 0⟩, ⟨[0, 1, 2, 3, 4, 5, 6, 7, 8, 9, 10, 11, 12, 13, 14, 15], 1, 1, none⟩] [15] [_, _] rfl rfl (by decide) (by decide) (by kernel_rfl) (And.intro (Val.of hσ rfl rfl) (And.intro (Val.of hσ rfl rfl) (And.intro (Val.of hσ rfl rfl) (And.intro (Val.of hσ rfl rfl) (And.intro (Val.of hσ rfl rfl) (And.intro (Val.indexD hσ rfl rfl rfl rfl rfl rfl rfl rfl (by first | omega | (simp at *; omega)) (idx_get (by first | omega | (simp at *; omega)) (by first | omega | (simp at *; omega)))) (And.intro (Val.of hσ rfl rfl) (And.intro (Val.of hσ rfl rfl) (And.intro (Val.of hσ rfl rfl) (And.intro (Val.of hσ rfl rfl) (And.intro (Val.of hσ rfl rfl) (And.intro (Val.of hσ rfl rfl) (And.intro (Val.indexD hσ rfl rfl rfl rfl rfl rfl rfl rfl (by first | omega | (simp at *; omega)) (idx_get (by first | omega | (simp at *; omega)) (by first | omega | (simp at *; omega)))) (And.intro (Val.of hσ rfl rfl) (And.intro (Val.fits64 hσ rfl rfl (by rw [Int.toNat_natCast]; omega) (by rw [Int.toNat_natCast]; omega)) (And.intro (Eff.lone hσ (B0 := 32000) rfl rfl rfl rfl ((c209 (a := t.xs.getD ((i : Int)).toNat default) (b := 0 - t.xs.getD ((i : Int)).toNat default) h1 h2).plain (u := eI ((t.xs.getD i default).natAbs)) (by rw [Int.toNat_natCast, hmx])) (VAs.self rfl) rfl rfl rfl rfl rfl) (And.intro (Val.of hσ rfl rfl) trivial))))))))))))))))) ?_
  refine AWP.forget [(5, _), (13, _), (0, _), (3, _), (4, _)] ⟨rfl, rfl, rfl, rfl, rfl, trivial⟩ ?_
  refine jnw ?_
  refine AWP.block ?_
  refine AWP.loopP (X := Nat × Nat) (fun z => ⟨[(0, ptr t.cells), (3, eI z.1), (4, eI i), (5, eI z.2)], []⟩) (fun z => Nat.gcd z.1 z.2 = Nat.gcd (gcdL (t.xs.take i)) (t.xs.getD i default).natAbs ∧ z.1 ≤ 1000000 ∧ z.2 ≤ 1000000) (fun z => z.2) (gcdL (t.xs.take i), (t.xs.getD i default).natAbs) (Ent.env ⟨rfl, rfl, rfl, rfl, trivial⟩) ?_ (fun z hi => ?_)
  ·
   exact ⟨rfl, hgl, by show (t.xs.getD i default).natAbs ≤ 1000000; omega⟩
  have hz := tmod_in (a := z.1) (b := z.2) (by omega)
  refine AWP.seq ?_
  refine jsr ?_
  iterate 2 refine jst hσ rfl rfl rfl rfl rfl ?_
  refine jn ?_
  refine AWP.cond hσ rfl rfl (fun hc33 => ?_) (fun hc33 => ?_)
  ·
   try simp only [jcs] at hc33
   refine AWP.skip ?_
   refine AWP.block ?_
   refine jsr ?_
   iterate 2 refine jst hσ rfl rfl rfl rfl rfl ?_
   first | refine AOps.step (Val.rem64 hσ rfl rfl rfl rfl (by first | omega | (simp at *; omega)) (by first | omega | (simp at *; omega)) (by first | omega | (simp at *; omega))) rfl rfl rfl ?_ | refine jfi hσ rfl rfl rfl rfl rfl ?_
   refine jst hσ rfl rfl rfl rfl rfl ?_
   refine jf7 6 33 32 0 3 4 5 rfl rfl rfl rfl rfl rfl rfl ?_
   refine jns ?_
   iterate 2 refine jst hσ rfl rfl rfl rfl rfl ?_
   refine jn ?_
   refine AWP.region ?_
   iterate 2 refine jst hσ rfl rfl rfl rfl rfl ?_
   refine jf7 5 3 37 33 32 0 4 rfl rfl rfl rfl rfl rfl rfl ?_
   refine jn ?_
   have hm : z.1 % z.2 < z.2 := Nat.mod_lt _ (by omega)
   refine ⟨(z.2, z.1 % z.2), Ent.env ⟨rfl, rfl, rfl, rfl, trivial⟩, ⟨?_, hi.2.2, by show z.1 % z.2 ≤ 1000000; omega⟩, hm⟩
   show Nat.gcd z.2 (z.1 % z.2) = _
   rw [← hi.1, Nat.gcd_comm z.2, ← Nat.gcd_rec, Nat.gcd_comm]
  ·
   try simp only [jcs] at hc33
   refine AWP.exit ?_
   refine AWP.region ?_
   refine jst hσ rfl rfl rfl rfl rfl ?_
   first | refine jfi hσ rfl rfl rfl rfl rfl ?_ | refine jvf hσ rfl rfl rfl rfl rfl ?_
   refine jst hσ rfl rfl rfl rfl rfl ?_
   refine jf6 4 33 32 0 3 5 rfl rfl rfl rfl rfl rfl ?_
   refine jn ?_
   have hz0 : z.2 = 0 := by omega
   have hz1 : z.1 = gcdL (t.xs.take (i + 1)) := by rw [hgs, ← hi.1, hz0, Nat.gcd_zero_right]
   rw [hz1]
   exact ⟨i + 1, Ent.env ⟨rfl, rfl, rfl, trivial⟩, by omega, by omega⟩
 ·
  try simp only [jcs] at hc13
  refine AWP.exit ?_
  refine jsr ?_
  iterate 2 refine jst hσ rfl rfl rfl rfl rfl ?_
  refine jn ?_
  refine AWP.ret ?_
  refine ⟨.inl rfl, _, Ent.refl, _, rfl, ?_⟩
  obtain rfl : i = t.xs.length := by omega
  rw [List.take_length]
theorem c182 {L : Nat} (h1 : 4096 ≤ L) (h2 : L ≤ 1073741824) {t : Tm} (ht : Small t) : MC Tryz.prog L 88 [ptr t.cells] [] (Plain (resTm (tightS t))) := by
 refine MC.data ?_
 have hσ := SGok (nt := 55) h1 (Nat.le_trans h2 (by decide))
 refine MC.body hσ Tryz.func88 (by kernel_rfl) rfl rfl (Nat.le_of_ble_eq_true rfl) (fun hF => ?_)
 have hl : t.xs.length ≤ L := by simpa [As.fact, A.fact, M.fact, D.fact, Ds.fact] using hF.1.2.1.1
 refine jsr ?_
 refine AOps.heap (HS.alloc hσ rfl rfl rfl rfl rfl) rfl ?_
 refine jst hσ rfl rfl rfl rfl rfl ?_
 refine jns ?_
 refine jst hσ rfl rfl rfl rfl rfl ?_
 refine AOps.lone hσ rfl rfl rfl rfl (c198 (t := t) h1 h2 ht.xs) (VAs.self rfl) rfl rfl rfl rfl rfl (B0 := 10000) rfl ?_
 refine jst hσ rfl rfl rfl rfl rfl ?_
 refine jf4 4 3 2 0 rfl rfl rfl rfl ?_
 refine jn ?_
 refine AWP.seq ?_
 refine jsr ?_
 iterate 2 refine jst hσ rfl rfl rfl rfl rfl ?_
 refine jn ?_
 refine AWP.cond hσ rfl rfl (fun hc11 => ?_) (fun hc11 => ?_)
 ·
  try simp only [jcs] at hc11
  refine jsr ?_
  refine jst hσ rfl rfl rfl rfl rfl ?_
  refine jf6 12 10 4 3 2 0 rfl rfl rfl rfl rfl rfl ?_
  refine AOps.heap (HS.storeBox hσ rfl rfl rfl rfl rfl rfl rfl rfl rfl rfl rfl) rfl ?_
  refine jst hσ rfl rfl rfl rfl rfl ?_
  refine jn ?_
  refine AWP.ret ?_
  refine ⟨.inl rfl, _, Ent.refl, _, rfl, ?_⟩
  rw [show tightS t = (⟨0, []⟩, false) from if_pos (by omega)]
  exact .tup (.cons (.agg (.cons .d (.cons .nils .nil))) (.cons (.c .d) .nil))
 ·
  try simp only [jcs] at hc11
  refine AWP.skip ?_
  refine jsr ?_
  obtain ⟨g, hg⟩ : ∃ g : Int, g = (gcdL t.xs : Int) := ⟨_, rfl⟩
  rw [← hg]
  rw [← hg] at hc11
  refine AOps.heap (HS.lit hσ rfl rfl rfl) rfl ?_
  refine jst hσ rfl rfl rfl rfl rfl ?_
  refine jf6 5 10 4 3 2 0 rfl rfl rfl rfl rfl rfl ?_
  refine jn ?_
  refine AWP.seq ?_
  refine jsr ?_
  refine jst hσ rfl rfl rfl rfl rfl ?_
  refine jn ?_
  refine AWP.block ?_
  refine AWP.loopP (X := Nat) (fun i => ⟨[(0, ptr t.cells), (2, .c (.pt 2 0 0)), (4, eI g), (5, .c (.rs 900 0 i)), (6, eI i)], [(2, .box [.d (.int .i64 0), .d .nils]), (900, nrow ((t.xs.map fun x => x.tdiv g).take i))]⟩) (fun i => i ≤ t.xs.length) (fun i => t.xs.length - i) 0 ((Ent.sub2 13 900 rfl rfl).trans (Ent.to ⟨rfl, rfl, rfl, rfl, rfl, trivial⟩ rfl)) ?_ (fun i hi => ?_)
  ·
   exact Nat.zero_le _
  refine AWP.seq ?_
  refine jsr ?_
  iterate 5 refine jst hσ rfl rfl rfl rfl rfl ?_
  first | refine jle hσ rfl rfl rfl rfl rfl rfl rfl rfl rfl rfl rfl ?_ | refine jst hσ rfl rfl rfl rfl rfl ?_ | refine jvf hσ rfl rfl rfl rfl rfl ?_
  refine jst hσ rfl rfl rfl rfl rfl ?_
  refine jf6 20 0 2 4 5 6 rfl rfl rfl rfl rfl rfl ?_
  refine jn ?_
  refine AWP.cond hσ rfl rfl (fun hc20 => ?_) (fun hc20 => ?_)
  ·
   try simp only [jcs] at hc20
   refine AWP.skip ?_
   refine AWP.seq ?_
   refine AWP.block ?_
   refine AWP.region ?_
   have hx := tdiv_in (b := g) (num_iff.1 (List.all_eq_true.1 ht.xs _ (List.getElem_mem (show i < t.xs.length by omega))))
   rw [← getD_lt (by omega)] at hx
   iterate 6 refine jst hσ rfl rfl rfl rfl rfl ?_
   first | refine jix hσ rfl rfl rfl rfl rfl rfl rfl rfl rfl rfl rfl ?_ | refine jvf hσ rfl rfl rfl rfl rfl ?_
   iterate 2 refine jst hσ rfl rfl rfl rfl rfl ?_
   refine AOps.step (Val.quo64 hσ rfl rfl rfl rfl (by omega) (by rw [Int.toNat_natCast]; omega) (by rw [Int.toNat_natCast]; omega)) rfl rfl rfl ?_
   refine jf8 32 23 20 0 2 4 5 6 rfl rfl rfl rfl rfl rfl rfl rfl ?_
   refine AOps.heap (HS.lit hσ rfl rfl rfl) rfl ?_
   refine jf8 33 23 20 0 2 4 5 6 rfl rfl rfl rfl rfl rfl rfl rfl ?_
   refine AOps.heap (HS.appMove (zs := ((t.xs.map fun x => x.tdiv g).take (i + 1)).map fun n => [.int .i64 n]) (n := i + 1) hσ rfl rfl rfl rfl rfl rfl rfl rfl rfl rfl rfl rfl rfl rfl rfl rfl (.row rfl (by simp; omega)) rfl rfl (by decide) rfl (by simp; omega) (by simp; omega) (by rw [List.take_succ_eq_append_getElem (by simp; omega), List.map_append, List.getElem_map, Int.toNat_natCast, getD_lt (by omega)]; rfl) (by simp; omega)) rfl ?_
   refine jst hσ rfl rfl rfl rfl rfl ?_
   refine jf6 5 20 0 2 4 6 rfl rfl rfl rfl rfl rfl ?_
   refine jn ?_
   refine AWP.region ?_
   refine jst hσ rfl rfl rfl rfl rfl ?_
   first | refine jfi hσ rfl rfl rfl rfl rfl ?_ | refine jvf hσ rfl rfl rfl rfl rfl ?_
   refine jst hσ rfl rfl rfl rfl rfl ?_
   refine jf6 6 5 20 0 2 4 rfl rfl rfl rfl rfl rfl ?_
   refine jn ?_
   refine ⟨i + 1, ((Ent.sel [2, 34] (e' := [(0, _), (2, _), (4, _), (5, _), (6, _)]) rfl rfl ⟨rfl, rfl, rfl, rfl, rfl, trivial⟩ rfl).trans (Ent.sub2 34 900 rfl rfl)), by omega, by omega⟩
  ·
   try simp only [jcs] at hc20
   refine AWP.exit ?_
   refine jsr ?_
   have hc0 := num_iff.1 ht.c
   have hq := tdiv_in (b := g) hc0
   have hr := tmod_in (b := g) hc0
   obtain rfl : i = t.xs.length := by omega
   rw [List.take_of_length_le (by simp)]
   refine AOps.to (Ent.freeze 900 (e' := [(2, _), (4, _), (5, _), (0, _)]) rfl (.cons rfl (.keep rfl) (.cons rfl (.keep rfl) (.cons rfl (.c (.row rfl (by simp))) (.cons rfl (.keep rfl) .nil)))) (.cons rfl (.box (.cons (.keep rfl) (.cons (.keep rfl) .nil))) (.skip .nil))) ?_
   iterate 5 refine jst hσ rfl rfl rfl rfl rfl ?_
   first | refine AOps.step (Val.quo64 hσ rfl rfl rfl rfl (by first | omega | (simp at *; omega)) (by first | omega | (simp at *; omega)) (by first | omega | (simp at *; omega))) rfl rfl rfl ?_ | refine jfi hσ rfl rfl rfl rfl rfl ?_
   refine jst hσ rfl rfl rfl rfl rfl ?_
   refine jf5 7 2 4 5 0 rfl rfl rfl rfl rfl ?_
   refine jn ?_
   refine AWP.seq ?_
   refine jsr ?_
   iterate 5 refine jst hσ rfl rfl rfl rfl rfl ?_
   first | refine AOps.step (Val.rem64 hσ rfl rfl rfl rfl (by first | omega | (simp at *; omega)) (by first | omega | (simp at *; omega)) (by first | omega | (simp at *; omega))) rfl rfl rfl ?_ | refine jfi hσ rfl rfl rfl rfl rfl ?_
   refine jst hσ rfl rfl rfl rfl rfl ?_
   refine jf6 47 7 2 4 5 0 rfl rfl rfl rfl rfl rfl ?_
   refine jn ?_
   refine AWP.cond hσ rfl rfl (fun hc47 => ?_) (fun hc47 => ?_)
   ·
    try simp only [jcs] at hc47
    refine AWP.region ?_
    refine jst hσ rfl rfl rfl rfl rfl ?_
    first | refine jfi hσ rfl rfl rfl rfl rfl ?_ | refine jvf hσ rfl rfl rfl rfl rfl ?_
    refine jst hσ rfl rfl rfl rfl rfl ?_
    refine jf6 7 47 2 4 5 0 rfl rfl rfl rfl rfl rfl ?_
    refine jns ?_
    iterate 2 refine jst hσ rfl rfl rfl rfl rfl ?_
    refine AOps.plainD hσ rfl rfl rfl rfl (c199 (c := _) (xs := t.xs.map fun x => x.tdiv g) h1 h2) (VAs.self rfl) rfl rfl rfl rfl (B0 := 53000) rfl rfl ?_
    iterate 2 refine jst hσ rfl rfl rfl rfl rfl ?_
    refine jf8 54 53 7 47 2 4 5 0 rfl rfl rfl rfl rfl rfl rfl rfl ?_
    refine AOps.heap (HS.storeBox hσ rfl rfl rfl rfl rfl rfl rfl rfl rfl rfl rfl) rfl ?_
    refine jst hσ rfl rfl rfl rfl rfl ?_
    refine jf7 3 7 47 2 4 5 0 rfl rfl rfl rfl rfl rfl rfl ?_
    refine jn ?_
    refine AWP.ret ?_
    refine ⟨.inl rfl, _, Ent.refl, _, rfl, ?_⟩
    rw [show tightS t = mkT (t.c.tdiv g - 1) (t.xs.map fun x => x.tdiv g) by rw [hg, tightS, if_neg (by omega), if_pos (by rw [← hg]; exact hc47)]]
    exact .tup (.cons (.agg (VMs.self rfl)) (.cons (.c .d) .nil))
   ·
    try simp only [jcs] at hc47
    refine AWP.skip ?_
    refine jsr ?_
    iterate 2 refine jst hσ rfl rfl rfl rfl rfl ?_
    refine AOps.plainD hσ rfl rfl rfl rfl (c199 (c := _) (xs := t.xs.map fun x => x.tdiv g) h1 h2) (VAs.self rfl) rfl rfl rfl rfl (B0 := 53000) rfl rfl ?_
    iterate 2 refine jst hσ rfl rfl rfl rfl rfl ?_
    refine jf8 54 53 47 7 2 4 5 0 rfl rfl rfl rfl rfl rfl rfl rfl ?_
    refine AOps.heap (HS.storeBox hσ rfl rfl rfl rfl rfl rfl rfl rfl rfl rfl rfl) rfl ?_
    refine jst hσ rfl rfl rfl rfl rfl ?_
    refine jf7 3 47 7 2 4 5 0 rfl rfl rfl rfl rfl rfl rfl ?_
    refine jn ?_
    refine AWP.ret ?_
    refine ⟨.inl rfl, _, Ent.refl, _, rfl, ?_⟩
    rw [show tightS t = mkT (t.c.tdiv g) (t.xs.map fun x => x.tdiv g) by rw [hg, tightS, if_neg (by omega), if_neg (by rw [← hg]; omega)]]
    exact .tup (.cons (.agg (VMs.self rfl)) (.cons (.c .d) .nil))
end Go.Al
namespace Go.Al
open Go.Proofs
set_option linter.unusedVariables false
set_option linter.unusedSimpArgs false
set_option maxRecDepth 10000
def part (ts : List Tm) (ms : List Int) (i j : Nat) : List Int := (List.range 10).map fun k => dotG (colF k) (ts.take i) (ms.take i) + (if k < j then ms.getD i default * (ts.getD i default).xs.getD k 0 else 0)
theorem part_length {ts ms i j} : (part ts ms i j).length = 10 := by simp [part]
theorem part_zero {ts ms i} : part ts ms i 0 = colsL (ts.take i) (ms.take i) := by simp [part, colsL]
theorem part_get {ts ms i j} (h : j < 10) : (part ts ms i j).getD j default = dotG (colF j) (ts.take i) (ms.take i) := by
  rw [getD_lt (by rw [part_length]; exact h)]
  simp [part]
theorem part_succ {ts ms i j} (h : j < 10) : (part ts ms i j).set j ((part ts ms i j).getD j default + ms.getD i default * (ts.getD i default).xs.getD j default) = part ts ms i (j + 1) := by
  rw [part_get h]
  apply List.ext_getElem?
  intro k
  rw [List.getElem?_set]
  by_cases hk : k < 10
  · by_cases e : j = k
    · subst e
      rw [if_pos rfl, if_pos (by rw [part_length]; exact h)]
      simp [part, h]
    · rw [if_neg e]
      have h3 : (k < j + 1) = (k < j) := by apply propext; omega
      simp only [part, List.getElem?_map, List.getElem?_range hk, Option.map_some, h3]
  · have h1 : (part ts ms i j)[k]? = none := List.getElem?_eq_none (by rw [part_length]; omega)
    have h2 : (part ts ms i (j + 1))[k]? = none := List.getElem?_eq_none (by rw [part_length]; omega)
    rw [if_neg (by omega), h1, h2]
theorem part_all {ts ms i j} (h1 : i < ts.length) (h2 : i < ms.length) (h : (ts.getD i default).xs.length ≤ j) : part ts ms i j = colsL (ts.take (i + 1)) (ms.take (i + 1)) := by
  unfold part colsL
  apply List.map_congr_left
  intro k hk
  rw [dotG_succ h1 h2]
  by_cases e : k < j
  · rw [if_pos e]
  · rw [if_neg e]
    show _ + 0 = _ + _ * (ts.getD i default).xs.getD k 0
    rw [show (ts.getD i default).xs.getD k 0 = 0 by rw [List.getD_eq_getElem?_getD, List.getElem?_eq_none (by omega)]; rfl, Int.mul_zero]
theorem colsL_length {ts ms} : (colsL ts ms).length = 10 := by simp [colsL]
structure CtxOk (ctx : List Tm) : Prop where
  ok : ∀ t ∈ ctx, t.ok = true
  len : ctx.length ≤ 1000
theorem CtxOk.get {ctx : List Tm} (h : CtxOk ctx) {i : Nat} (hi : i < ctx.length) : (ctx.getD i default).ok = true := by rw [getD_lt hi]; exact h.ok _ (List.getElem_mem hi)
end Go.Al
