/- Contracts of the functions that say whether a program is valid, of the reference and of the program. -/
import Derived.Test.YtpdpbfokkimbbaaD
namespace Go.Al
open Go.Proofs
set_option linter.unusedVariables false
set_option linter.unusedSimpArgs false
set_option maxRecDepth 10000
def Tm.term (t : Tm) : Bool := t.ok && decide ((t.xs.length : Int) ≤ 4)
def terms (ts : List Tm) (n : Int) : Bool := ts.all Tm.term && decide ((ts.length : Int) ≤ n)
def below (k : Int) : Int := if k = 1 then 2 else if k = 7 then 2 else if k = 8 then 1 else 0
/-- How many elements a statement has that needs so many parts. -/
def endL : List Sm → Int → Option Nat
  | [], need => if need ≤ 0 then some 0 else none
  | s :: r, need => if need ≤ 0 then some 0 else (endL r (need + (below s.kind - 1))).map (· + 1)
def endR (body : List Sm) (k : Nat) : Int := match endL (body.drop k) 1 with
  | some n => k + n
  | none => -1
def Tm.zero (t : Tm) : Bool := decide (t.c = 0) && decide ((t.xs.length : Int) = 0)

theorem c149 {L : Nat} (h1 : 4096 ≤ L) (h2 : L ≤ 1073741824) {t : Tm} : MC Try.prog L 149 [ptr t.cells] [] (Plain (eB t.term)) := by
 refine MC.alone ?_ rfl
 have hσ := SGok (nt := 13) h1 (Nat.le_trans h2 (by decide))
 refine MC.body hσ Try.func149 (by kernel_rfl) rfl rfl (Nat.le_of_ble_eq_true rfl) (fun hF => ?_)
 refine AWP.seq ?_
 refine AWP.region ?_
 refine AOps.step (Val.of hσ rfl rfl) rfl rfl rfl ?_
 refine AOps.nil ?_
 refine AWP.seq ?_
 refine AWP.region ?_
 refine AOps.step (Val.of hσ rfl rfl) rfl rfl rfl ?_
 refine AOps.lone hσ rfl rfl rfl rfl (c136 h1 h2) (VAs.self rfl) rfl rfl rfl rfl rfl (B0 := 5000) rfl ?_
 refine AOps.step (Val.of hσ rfl rfl) rfl rfl rfl ?_
 refine AOps.gr 6 rfl rfl rfl (fun hx => AN.step hx rfl rfl rfl (Val.of hσ rfl rfl) rfl rfl ( AN.step hx rfl rfl rfl (Val.of hσ rfl rfl) rfl rfl ( AN.step hx rfl rfl rfl (Val.of hσ rfl rfl) rfl rfl ( AN.step hx rfl rfl rfl (Val.of hσ rfl rfl) rfl rfl ( AN.step hx rfl rfl rfl (Val.lenD hσ rfl rfl rfl rfl rfl rfl rfl rfl) rfl rfl ( AN.step hx rfl rfl rfl (Val.of hσ rfl rfl) rfl rfl ( AN.nil))))))) rfl rfl ?_
 first | refine AOps.step (Val.pickT hσ rfl rfl rfl rfl rfl) rfl rfl rfl ?_ | refine AOps.step (Val.pickF hσ rfl rfl rfl rfl rfl) rfl rfl rfl ?_ | refine AOps.step (Val.pickB hσ rfl rfl rfl rfl rfl) rfl rfl rfl ?_
 refine AOps.step (Val.of hσ rfl rfl) rfl rfl rfl ?_
 refine AOps.nil ?_
 refine AWP.ret ?_
 refine ⟨.inl rfl, _, Ent.refl, _, rfl, ?_⟩
 rw [Bool.cond_false_right]; rfl
theorem c101 {L : Nat} (h1 : 4096 ≤ L) (h2 : L ≤ 1073741824) {ts : List Tm} {n : Int} : MC Try.prog L 101 [atms ts, eI n] [] (Plain (eB (terms ts n))) := by
 refine MC.alone ?_ rfl
 have hσ := SGok (nt := 21) h1 (Nat.le_trans h2 (by decide))
 refine MC.body hσ Try.func101 (by kernel_rfl) rfl rfl (Nat.le_of_ble_eq_true rfl) (fun hF => ?_)
 have hl : ts.length ≤ L := by simpa [As.fact, A.fact, M.fact, D.fact, Ds.fact] using hF.1.1
 refine AWP.seq ?_
 refine AWP.region ?_
 refine AOps.step (Val.of hσ rfl rfl) rfl rfl rfl ?_
 refine AOps.nil ?_
 refine AWP.seq ?_
 refine AWP.seq ?_
 refine AWP.region ?_
 refine AOps.step (Val.of hσ rfl rfl) rfl rfl rfl ?_
 refine AOps.nil ?_
 refine AWP.block ?_
 refine AWP.loopP (X := Nat) (fun i => ⟨[(0, atms ts), (1, eI n), (5, eI i)], []⟩) (fun i => i ≤ ts.length ∧ ∀ j (h : j < ts.length), j < i → Tm.term ts[j] = true) (fun i => ts.length - i) 0 (Ent.env ⟨rfl, rfl, rfl, trivial⟩) ?_ (fun i hi => ?_)
 ·
  exact ⟨Nat.zero_le _, fun j h hj => absurd hj (Nat.not_lt_zero j)⟩
 refine AWP.seq ?_
 refine AWP.seq ?_
 refine AWP.region ?_
 refine AOps.step (Val.of hσ rfl rfl) rfl rfl rfl ?_
 refine AOps.step (Val.of hσ rfl rfl) rfl rfl rfl ?_
 first | refine AOps.step (Val.lenD hσ rfl rfl rfl rfl rfl rfl rfl rfl) rfl rfl rfl ?_ | refine AOps.step (Val.of hσ rfl rfl) rfl rfl rfl ?_ | refine AOps.step (Val.vif hσ rfl rfl (by first | omega | (simp at *; omega))) rfl rfl rfl ?_
 refine AOps.step (Val.of hσ rfl rfl) rfl rfl rfl ?_
 refine AOps.nil ?_
 refine AWP.cond hσ rfl rfl (fun hc9 => ?_) (fun hc9 => ?_)
 ·
  try simp only [List.length_map, beq_iff_eq, decide_eq_true_eq, decide_eq_false_iff_not, Bool.not_eq_true', Bool.not_eq_false', Bool.not_true, Bool.not_false, Int.not_lt, Int.not_le] at hc9
  refine AWP.skip ?_
  refine AWP.seq ?_
  refine AWP.block ?_
  refine AWP.seq ?_
  refine AWP.region ?_
  refine AOps.step (Val.of hσ rfl rfl) rfl rfl rfl ?_
  refine AOps.step (Val.of hσ rfl rfl) rfl rfl rfl ?_
  first | refine AOps.step (Val.indexD hσ rfl rfl rfl rfl rfl rfl rfl rfl (by first | omega | (simp at *; omega)) (idx_get (by first | omega | (simp at *; omega)) (by first | omega | (simp at *; omega)))) rfl rfl rfl ?_ | refine AOps.step (Val.vif hσ rfl rfl (by first | omega | (simp at *; omega))) rfl rfl rfl ?_
  refine AOps.lone hσ rfl rfl rfl rfl (c149 h1 h2) (VAs.self rfl) rfl rfl rfl rfl rfl (B0 := 16000) rfl ?_
  refine AOps.step (Val.of hσ rfl rfl) rfl rfl rfl ?_
  refine AOps.nil ?_
  refine AWP.cond hσ rfl rfl (fun hc16 => ?_) (fun hc16 => ?_)
  ·
   try simp only [List.length_map, beq_iff_eq, decide_eq_true_eq, decide_eq_false_iff_not, Bool.not_eq_true', Bool.not_eq_false', Bool.not_true, Bool.not_false, Int.not_lt, Int.not_le] at hc16
   refine AWP.seq ?_
   refine AWP.region ?_
   refine AOps.step (Val.of hσ rfl rfl) rfl rfl rfl ?_
   refine AOps.nil ?_
   refine AWP.ret ?_
   refine ⟨.inl rfl, _, Ent.refl, _, rfl, ?_⟩
   rw [Int.toNat_natCast, getD_lt (by omega)] at hc16
   rw [terms, all_not i (by omega) hc16, Bool.false_and]
  ·
   try simp only [List.length_map, beq_iff_eq, decide_eq_true_eq, decide_eq_false_iff_not, Bool.not_eq_true', Bool.not_eq_false', Bool.not_true, Bool.not_false, Int.not_lt, Int.not_le] at hc16
   refine AWP.skip ?_
   refine AWP.region ?_
   refine AOps.step (Val.of hσ rfl rfl) rfl rfl rfl ?_
   first | refine AOps.step (Val.fits64 hσ rfl rfl (by first | omega | (simp at *; omega)) (by first | omega | (simp at *; omega))) rfl rfl rfl ?_ | refine AOps.step (Val.vif hσ rfl rfl (by first | omega | (simp at *; omega))) rfl rfl rfl ?_
   refine AOps.step (Val.of hσ rfl rfl) rfl rfl rfl ?_
   refine AOps.nil ?_
   refine ⟨i + 1, Ent.env ⟨rfl, rfl, rfl, trivial⟩, ⟨by omega, fun j h hj => ?_⟩, by omega⟩
   by_cases e : j = i
   ·
    subst e; rw [Int.toNat_natCast, getD_lt h] at hc16; exact hc16
   ·
    exact hi.2 j h (by omega)
 ·
  try simp only [List.length_map, beq_iff_eq, decide_eq_true_eq, decide_eq_false_iff_not, Bool.not_eq_true', Bool.not_eq_false', Bool.not_true, Bool.not_false, Int.not_lt, Int.not_le] at hc9
  refine AWP.exit ?_
  refine AWP.seq ?_
  refine AWP.region ?_
  refine AOps.step (Val.of hσ rfl rfl) rfl rfl rfl ?_
  first | refine AOps.step (Val.lenD hσ rfl rfl rfl rfl rfl rfl rfl rfl) rfl rfl rfl ?_ | refine AOps.step (Val.of hσ rfl rfl) rfl rfl rfl ?_ | refine AOps.step (Val.vif hσ rfl rfl (by first | omega | (simp at *; omega))) rfl rfl rfl ?_
  refine AOps.step (Val.of hσ rfl rfl) rfl rfl rfl ?_
  refine AOps.step (Val.of hσ rfl rfl) rfl rfl rfl ?_
  refine AOps.step (Val.of hσ rfl rfl) rfl rfl rfl ?_
  refine AOps.nil ?_
  refine AWP.ret ?_
  refine ⟨.inl rfl, _, Ent.refl, _, rfl, ?_⟩
  rw [terms, all_of (fun j hj => hi.2 j hj (by omega)), Bool.true_and]
theorem below_le (k : Int) : 0 ≤ below k ∧ below k ≤ 2 := by unfold below; split; decide; split; decide; split <;> decide
theorem endL_neg {l : List Sm} {n : Int} (h : n ≤ 0) : endL l n = some 0 := by cases l <;> simp [endL, h]
theorem endL_nil {n : Int} (h : 0 < n) : endL [] n = none := by simp [endL]; omega
theorem endL_pos {l : List Sm} {n : Int} (h : 0 < n) {k : Nat} (hk : k < l.length) : endL (l.drop k) n = (endL (l.drop (k + 1)) (n + (below (l.getD k default).kind - 1))).map (· + 1) := by
  rw [List.drop_eq_getElem_cons hk, getD_lt hk]
  show (if n ≤ 0 then some 0 else _) = _
  rw [if_neg (by omega)]

theorem c152 {L : Nat} (h1 : 4096 ≤ L) (h2 : L ≤ 1073741824) {k : Int} : MC Try.prog L 152 [eI k] [] (Plain (eI (below k))) := by
 refine MC.alone ?_ rfl
 have hσ := SGok (nt := 9) h1 (Nat.le_trans h2 (by decide))
 refine MC.body hσ Try.func152 (by kernel_rfl) rfl rfl (Nat.le_of_ble_eq_true rfl) (fun hF => ?_)
 refine AWP.seq ?_
 refine AWP.region ?_
 refine AOps.step (Val.of hσ rfl rfl) rfl rfl rfl ?_
 refine AOps.nil ?_
 refine AWP.seq ?_
 refine AWP.seq ?_
 refine AWP.region ?_
 refine AOps.step (Val.of hσ rfl rfl) rfl rfl rfl ?_
 refine AOps.nil ?_
 refine AWP.block ?_
 refine AWP.seq ?_
 refine AWP.seq ?_
 refine AWP.region ?_
 refine AOps.step (Val.of hσ rfl rfl) rfl rfl rfl ?_
 refine AOps.step (Val.of hσ rfl rfl) rfl rfl rfl ?_
 refine AOps.nil ?_
 refine AWP.cond hσ rfl rfl (fun hc4 => ?_) (fun hc4 => ?_)
 ·
  try simp only [List.length_map, beq_iff_eq, decide_eq_true_eq, decide_eq_false_iff_not, Bool.not_eq_true', Bool.not_eq_false', Bool.not_true, Bool.not_false, Int.not_lt, Int.not_le] at hc4
  refine AWP.skip ?_
  refine AWP.cond hσ rfl rfl (fun hc4 => ?_) (fun hc4 => ?_)
  ·
   try simp only [List.length_map, beq_iff_eq, decide_eq_true_eq, decide_eq_false_iff_not, Bool.not_eq_true', Bool.not_eq_false', Bool.not_true, Bool.not_false, Int.not_lt, Int.not_le] at hc4
   refine AWP.seq ?_
   refine AWP.region ?_
   refine AOps.step (Val.of hσ rfl rfl) rfl rfl rfl ?_
   refine AOps.nil ?_
   refine AWP.ret ?_
   refine ⟨.inl rfl, _, Ent.refl, _, rfl, ?_⟩
   simp_all [below]
  ·
   try simp only [List.length_map, beq_iff_eq, decide_eq_true_eq, decide_eq_false_iff_not, Bool.not_eq_true', Bool.not_eq_false', Bool.not_true, Bool.not_false, Int.not_lt, Int.not_le] at hc4
   refine AWP.seq ?_
   refine AWP.region ?_
   refine AOps.step (Val.of hσ rfl rfl) rfl rfl rfl ?_
   refine AOps.step (Val.of hσ rfl rfl) rfl rfl rfl ?_
   refine AOps.nil ?_
   refine AWP.cond hσ rfl rfl (fun hc7 => ?_) (fun hc7 => ?_)
   ·
    try simp only [List.length_map, beq_iff_eq, decide_eq_true_eq, decide_eq_false_iff_not, Bool.not_eq_true', Bool.not_eq_false', Bool.not_true, Bool.not_false, Int.not_lt, Int.not_le] at hc7
    refine AWP.seq ?_
    refine AWP.region ?_
    refine AOps.step (Val.of hσ rfl rfl) rfl rfl rfl ?_
    refine AOps.nil ?_
    refine AWP.ret ?_
    refine ⟨.inl rfl, _, Ent.refl, _, rfl, ?_⟩
    simp_all [below]
   ·
    try simp only [List.length_map, beq_iff_eq, decide_eq_true_eq, decide_eq_false_iff_not, Bool.not_eq_true', Bool.not_eq_false', Bool.not_true, Bool.not_false, Int.not_lt, Int.not_le] at hc7
    refine AWP.skip ?_
    refine AWP.seq ?_
    refine AWP.region ?_
    refine AOps.step (Val.of hσ rfl rfl) rfl rfl rfl ?_
    refine AOps.nil ?_
    refine AWP.ret ?_
    refine ⟨.inl rfl, _, Ent.refl, _, rfl, ?_⟩
    simp_all [below]
 ·
  try simp only [List.length_map, beq_iff_eq, decide_eq_true_eq, decide_eq_false_iff_not, Bool.not_eq_true', Bool.not_eq_false', Bool.not_true, Bool.not_false, Int.not_lt, Int.not_le] at hc4
  refine AWP.region ?_
  refine AOps.step (Val.of hσ rfl rfl) rfl rfl rfl ?_
  refine AOps.step (Val.of hσ rfl rfl) rfl rfl rfl ?_
  refine AOps.nil ?_
  refine AWP.cond hσ rfl rfl (fun hc4 => ?_) (fun hc4 => ?_)
  ·
   try simp only [List.length_map, beq_iff_eq, decide_eq_true_eq, decide_eq_false_iff_not, Bool.not_eq_true', Bool.not_eq_false', Bool.not_true, Bool.not_false, Int.not_lt, Int.not_le] at hc4
   refine AWP.seq ?_
   refine AWP.region ?_
   refine AOps.step (Val.of hσ rfl rfl) rfl rfl rfl ?_
   refine AOps.nil ?_
   refine AWP.ret ?_
   refine ⟨.inl rfl, _, Ent.refl, _, rfl, ?_⟩
   simp_all [below]
  ·
   try simp only [List.length_map, beq_iff_eq, decide_eq_true_eq, decide_eq_false_iff_not, Bool.not_eq_true', Bool.not_eq_false', Bool.not_true, Bool.not_false, Int.not_lt, Int.not_le] at hc4
   refine AWP.seq ?_
   refine AWP.region ?_
   refine AOps.step (Val.of hσ rfl rfl) rfl rfl rfl ?_
   refine AOps.step (Val.of hσ rfl rfl) rfl rfl rfl ?_
   refine AOps.nil ?_
   refine AWP.cond hσ rfl rfl (fun hc7 => ?_) (fun hc7 => ?_)
   ·
    try simp only [List.length_map, beq_iff_eq, decide_eq_true_eq, decide_eq_false_iff_not, Bool.not_eq_true', Bool.not_eq_false', Bool.not_true, Bool.not_false, Int.not_lt, Int.not_le] at hc7
    refine AWP.seq ?_
    refine AWP.region ?_
    refine AOps.step (Val.of hσ rfl rfl) rfl rfl rfl ?_
    refine AOps.nil ?_
    refine AWP.ret ?_
    refine ⟨.inl rfl, _, Ent.refl, _, rfl, ?_⟩
    simp_all [below]
   ·
    try simp only [List.length_map, beq_iff_eq, decide_eq_true_eq, decide_eq_false_iff_not, Bool.not_eq_true', Bool.not_eq_false', Bool.not_true, Bool.not_false, Int.not_lt, Int.not_le] at hc7
    refine AWP.skip ?_
    refine AWP.seq ?_
    refine AWP.region ?_
    refine AOps.step (Val.of hσ rfl rfl) rfl rfl rfl ?_
    refine AOps.nil ?_
    refine AWP.ret ?_
    refine ⟨.inl rfl, _, Ent.refl, _, rfl, ?_⟩
    simp_all [below]
theorem c179 {L : Nat} (h1 : 4096 ≤ L) (h2 : L ≤ 1073741824) {t : Tm} : MC Try.prog L 179 [ptr t.cells] [] (Plain (eB t.zero)) := by
 refine MC.alone ?_ rfl
 have hσ := SGok (nt := 16) h1 (Nat.le_trans h2 (by decide))
 refine MC.body hσ Try.func179 (by kernel_rfl) rfl rfl (Nat.le_of_ble_eq_true rfl) (fun hF => ?_)
 refine AWP.seq ?_
 refine AWP.region ?_
 refine AOps.step (Val.of hσ rfl rfl) rfl rfl rfl ?_
 refine AOps.nil ?_
 refine AWP.seq ?_
 refine AWP.region ?_
 refine AOps.step (Val.of hσ rfl rfl) rfl rfl rfl ?_
 refine AOps.step (Val.of hσ rfl rfl) rfl rfl rfl ?_
 refine AOps.step (Val.of hσ rfl rfl) rfl rfl rfl ?_
 refine AOps.step (Val.of hσ rfl rfl) rfl rfl rfl ?_
 refine AOps.step (Val.of hσ rfl rfl) rfl rfl rfl ?_
 refine AOps.step (Val.of hσ rfl rfl) rfl rfl rfl ?_
 refine AOps.gr 6 rfl rfl rfl (fun hx => AN.step hx rfl rfl rfl (Val.of hσ rfl rfl) rfl rfl ( AN.step hx rfl rfl rfl (Val.of hσ rfl rfl) rfl rfl ( AN.step hx rfl rfl rfl (Val.of hσ rfl rfl) rfl rfl ( AN.step hx rfl rfl rfl (Val.of hσ rfl rfl) rfl rfl ( AN.step hx rfl rfl rfl (Val.lenD hσ rfl rfl rfl rfl rfl rfl rfl rfl) rfl rfl ( AN.step hx rfl rfl rfl (Val.of hσ rfl rfl) rfl rfl ( AN.nil))))))) rfl rfl ?_
 first | refine AOps.step (Val.pickT hσ rfl rfl rfl rfl rfl) rfl rfl rfl ?_ | refine AOps.step (Val.pickF hσ rfl rfl rfl rfl rfl) rfl rfl rfl ?_ | refine AOps.step (Val.pickB hσ rfl rfl rfl rfl rfl) rfl rfl rfl ?_
 refine AOps.step (Val.of hσ rfl rfl) rfl rfl rfl ?_
 refine AOps.nil ?_
 refine AWP.ret ?_
 refine ⟨.inl rfl, _, Ent.refl, _, rfl, ?_⟩
 rw [Bool.cond_false_right]; rfl
theorem c105 {L : Nat} (h1 : 4096 ≤ L) (h2 : L ≤ 1073741824) {body : List Sm} {k : Nat} (hk : k ≤ body.length) : MC Try.prog L 105 [.c (.d (sms body)), eI k] [] (Plain (eI (endR body k))) := by
 refine MC.alone ?_ rfl
 have hσ := SGok (nt := 24) h1 (Nat.le_trans h2 (by decide))
 refine MC.body hσ Try.func105 (by kernel_rfl) rfl rfl (Nat.le_of_ble_eq_true rfl) (fun hF => ?_)
 have hl : body.length ≤ L := by simpa [As.fact, A.fact, M.fact, D.fact, Ds.fact] using hF.1.1
 refine AWP.seq ?_
 refine AWP.region ?_
 refine AOps.step (Val.of hσ rfl rfl) rfl rfl rfl ?_
 refine AOps.nil ?_
 refine AWP.seq ?_
 refine AWP.region ?_
 refine AOps.step (Val.of hσ rfl rfl) rfl rfl rfl ?_
 refine AOps.nil ?_
 refine AWP.seq ?_
 refine AWP.block ?_
 refine AWP.loopP (X := Int × Nat) (fun x => ⟨[(0, .c (.d (sms body))), (1, eI (k + x.2)), (5, eI x.1)], []⟩) (fun x => k + x.2 ≤ body.length ∧ (endL (body.drop k) 1 = (endL (body.drop (k + x.2)) x.1).map (· + x.2)) ∧ 0 ≤ x.1 ∧ x.1 ≤ x.2 + 1) (fun x => body.length - (k + x.2)) (1, 0) (Ent.env ⟨rfl, by simp [numbered, lk_cons], rfl, trivial⟩) ?_ (fun x hi => ?_)
 ·
  exact ⟨hk, by simp, by decide, by decide⟩
 refine AWP.seq ?_
 refine AWP.seq ?_
 refine AWP.region ?_
 refine AOps.step (Val.of hσ rfl rfl) rfl rfl rfl ?_
 refine AOps.step (Val.of hσ rfl rfl) rfl rfl rfl ?_
 refine AOps.nil ?_
 refine AWP.cond hσ rfl rfl (fun hc7 => ?_) (fun hc7 => ?_)
 ·
  try simp only [List.length_map, beq_iff_eq, decide_eq_true_eq, decide_eq_false_iff_not, Bool.not_eq_true', Bool.not_eq_false', Bool.not_true, Bool.not_false, Int.not_lt, Int.not_le] at hc7
  refine AWP.skip ?_
  refine AWP.block ?_
  refine AWP.seq ?_
  refine AWP.seq ?_
  refine AWP.region ?_
  refine AOps.step (Val.of hσ rfl rfl) rfl rfl rfl ?_
  refine AOps.step (Val.of hσ rfl rfl) rfl rfl rfl ?_
  first | refine AOps.step (Val.lenD hσ rfl rfl rfl rfl rfl rfl rfl rfl) rfl rfl rfl ?_ | refine AOps.step (Val.of hσ rfl rfl) rfl rfl rfl ?_ | refine AOps.step (Val.vif hσ rfl rfl (by first | omega | (simp at *; omega))) rfl rfl rfl ?_
  refine AOps.step (Val.of hσ rfl rfl) rfl rfl rfl ?_
  refine AOps.nil ?_
  refine AWP.cond hσ rfl rfl (fun hc11 => ?_) (fun hc11 => ?_)
  ·
   try simp only [List.length_map, beq_iff_eq, decide_eq_true_eq, decide_eq_false_iff_not, Bool.not_eq_true', Bool.not_eq_false', Bool.not_true, Bool.not_false, Int.not_lt, Int.not_le] at hc11
   refine AWP.seq ?_
   refine AWP.region ?_
   refine AOps.step (Val.of hσ rfl rfl) rfl rfl rfl ?_
   refine AOps.nil ?_
   refine AWP.ret ?_
   refine ⟨.inl rfl, _, Ent.refl, _, rfl, ?_⟩
   have e : k + x.2 = body.length := by omega
   rw [endR, hi.2.1, List.drop_of_length_le (by omega), endL_nil hc7]; rfl
  ·
   try simp only [List.length_map, beq_iff_eq, decide_eq_true_eq, decide_eq_false_iff_not, Bool.not_eq_true', Bool.not_eq_false', Bool.not_true, Bool.not_false, Int.not_lt, Int.not_le] at hc11
   refine AWP.skip ?_
   refine AWP.seq ?_
   refine AWP.region ?_
   refine AOps.step (Val.of hσ rfl rfl) rfl rfl rfl ?_
   refine AOps.step (Val.of hσ rfl rfl) rfl rfl rfl ?_
   refine AOps.step (Val.of hσ rfl rfl) rfl rfl rfl ?_
   first | refine AOps.step (Val.indexD hσ rfl rfl rfl rfl rfl rfl rfl rfl (by first | omega | (simp at *; omega)) (idx_get (by first | omega | (simp at *; omega)) (by first | omega | (simp at *; omega)))) rfl rfl rfl ?_ | refine AOps.step (Val.vif hσ rfl rfl (by first | omega | (simp at *; omega))) rfl rfl rfl ?_
   refine AOps.step (Val.of hσ rfl rfl) rfl rfl rfl ?_
   refine AOps.step (Val.of hσ rfl rfl) rfl rfl rfl ?_
   refine AOps.lone hσ rfl rfl rfl rfl (c152 h1 h2) (VAs.self rfl) rfl rfl rfl rfl rfl (B0 := 19000) rfl ?_
   have hb := below_le (body.getD ((k : Int) + x.2).toNat default).kind
   refine AOps.step (Val.fits64 hσ rfl rfl (by omega) (by omega)) rfl rfl rfl ?_
   first | refine AOps.step (Val.fits64 hσ rfl rfl (by first | omega | (simp at *; omega)) (by first | omega | (simp at *; omega))) rfl rfl rfl ?_ | refine AOps.step (Val.vif hσ rfl rfl (by first | omega | (simp at *; omega))) rfl rfl rfl ?_
   refine AOps.step (Val.of hσ rfl rfl) rfl rfl rfl ?_
   refine AOps.nil ?_
   refine AWP.region ?_
   refine AOps.step (Val.of hσ rfl rfl) rfl rfl rfl ?_
   first | refine AOps.step (Val.fits64 hσ rfl rfl (by first | omega | (simp at *; omega)) (by first | omega | (simp at *; omega))) rfl rfl rfl ?_ | refine AOps.step (Val.vif hσ rfl rfl (by first | omega | (simp at *; omega))) rfl rfl rfl ?_
   refine AOps.step (Val.of hσ rfl rfl) rfl rfl rfl ?_
   refine AOps.nil ?_
   have hk2 : k + x.2 < body.length := by omega
   have e := endL_pos hc7 hk2
   rw [e, Option.map_map] at hi
   refine ⟨(x.1 + (below (body.getD (k + x.2) default).kind - 1), x.2 + 1), Ent.env ⟨rfl, ?_, rfl, trivial⟩, ⟨by show k + (x.2 + 1) ≤ _; omega, ?_, ?_, ?_⟩, by show body.length - (k + (x.2 + 1)) < _; omega⟩
   ·
    exact congrArg (fun z => some (eI z)) (by show (k : Int) + x.2 + 1 = k + (x.2 + 1 : Nat); omega)
   ·
    rw [hi.2.1]; exact congrArg (fun f => Option.map f _) (funext fun n => by show n + 1 + x.2 = n + (x.2 + 1); omega)
   ·
    show 0 ≤ x.1 + (below (body.getD (k + x.2) default).kind - 1); have := (below_le (body.getD (k + x.2) default).kind).1; omega
   ·
    show x.1 + (below (body.getD (k + x.2) default).kind - 1) ≤ (x.2 + 1 : Nat) + 1; have := (below_le (body.getD (k + x.2) default).kind).2; omega
 ·
  try simp only [List.length_map, beq_iff_eq, decide_eq_true_eq, decide_eq_false_iff_not, Bool.not_eq_true', Bool.not_eq_false', Bool.not_true, Bool.not_false, Int.not_lt, Int.not_le] at hc7
  refine AWP.exit ?_
  refine AWP.seq ?_
  refine AWP.region ?_
  refine AOps.step (Val.of hσ rfl rfl) rfl rfl rfl ?_
  refine AOps.step (Val.of hσ rfl rfl) rfl rfl rfl ?_
  refine AOps.nil ?_
  refine AWP.ret ?_
  refine ⟨.inl rfl, _, Ent.refl, _, rfl, ?_⟩
  rw [endR, hi.2.1, endL_neg hc7]; exact congrArg eI (by show (k : Int) + x.2 = k + (0 + x.2 : Nat); omega)
def sSum (s : Sm) : Bool := bif bif bif bif decide (s.kind = 2) then true else decide (s.kind = 4) then true else decide (s.kind = 6) then true else decide (s.kind = 7) then true else decide (s.kind = 8)
def sIdx (s : Sm) : Bool := bif decide (s.kind = 3) then true else decide (s.kind = 4)
def sNam (s : Sm) : Bool := bif decide (s.kind = 2) then true else decide (s.kind = 3)
def sB1 (s : Sm) : Bool := bif bif bif !(decide (0 ≤ s.kind) && decide (s.kind ≤ 8)) then true else !s.sum.term then true else !s.index.term then true else !terms s.facts 6
def sB2 (s : Sm) : Bool := bif bif bif !sSum s then !s.sum.zero else false then true else bif !sIdx s then !s.index.zero else false then true else bif !decide (s.kind = 8) then decide ((0 : Int) < s.facts.length) else false
def sB3 (s : Sm) : Bool := bif bif sNam s then !(decide (0 ≤ s.var) && decide (s.var ≤ 3)) else false then true else bif !sNam s then !decide (s.var = 0) else false
/-- The fields of an element are valid. -/
def stmtB (s : Sm) : Bool := bif sB1 s then false else bif sB2 s then false else bif sB3 s then false else bif decide (s.kind = 5) then (decide (0 ≤ s.event) && decide (s.event ≤ 3)) else decide (s.event = 0)
def bodyB (b : List Sm) : Bool := (decide ((1 : Int) ≤ b.length) && decide ((b.length : Int) ≤ 30)) && (b.all stmtB && decide (endR b 0 = b.length))
def progB (p : Pm) : Bool := terms p.pre 6 && (bodyB p.body && terms p.post 6)
def big (x : Int) : Bool := decide (-1000000000 ≤ x) && decide (x ≤ 1000000000)
def numsB (xs : List Int) (n : Int) : Bool := xs.all big && decide ((xs.length : Int) = n)
def stB (s : Sx) : Bool := numsB s.vars 4 && numsB s.cells 8
def dot : List Int → List Int → Int
  | x :: xs, y :: ys => x * y + dot xs ys
  | _, _ => 0
def evalT (t : Tm) (vars : List Int) : Int := t.c + dot t.xs vars
theorem dot_succ : ∀ {xs ys : List Int} {i : Nat}, i < xs.length → i < ys.length → dot (xs.take (i + 1)) (ys.take (i + 1)) = dot (xs.take i) (ys.take i) + xs.getD i default * ys.getD i default
  | [], _, i, h, _ => by simp at h
  | _ :: _, [], i, _, h => by simp at h
  | x :: xs, y :: ys, 0, _, _ => by simp [dot]
  | x :: xs, y :: ys, i + 1, h1, h2 => by
    have := dot_succ (xs := xs) (ys := ys) (i := i) (by simpa using h1) (by simpa using h2)
    simp only [List.take_succ_cons, dot, List.getD_cons_succ] at this ⊢
    omega
theorem dot_all : ∀ {xs ys : List Int} {i : Nat}, xs.length ≤ i → dot (xs.take i) (ys.take i) = dot xs ys
  | [], _, i, h => by simp [dot]
  | _ :: _, _, 0, h => by simp at h
  | _ :: _, [], i + 1, h => by simp [dot]
  | x :: xs, y :: ys, i + 1, h => by
    simp only [List.take_succ_cons, dot]
    rw [dot_all (by simpa using h)]
theorem mul_in {a b : Int} (h1 : -1000000 ≤ a ∧ a ≤ 1000000) (h2 : -1000000000 ≤ b ∧ b ≤ 1000000000) : -1000000000000000 ≤ a * b ∧ a * b ≤ 1000000000000000 := by
  have h3 : a.natAbs ≤ 1000000 := by omega
  have h4 : b.natAbs ≤ 1000000000 := by omega
  have h5 := Nat.mul_le_mul h3 h4
  rw [← Int.natAbs_mul] at h5
  omega
theorem num_iff {x : Int} : num x = true ↔ -1000000 ≤ x ∧ x ≤ 1000000 := by simp [num]
theorem big_iff {x : Int} : big x = true ↔ -1000000000 ≤ x ∧ x ≤ 1000000000 := by simp [big]
theorem dot_in {xs ys : List Int} (hx : xs.all num = true) (hy : ys.all big = true) : ∀ {i : Nat}, i ≤ xs.length → i ≤ ys.length → -(i * 1000000000000000 : Int) ≤ dot (xs.take i) (ys.take i) ∧ dot (xs.take i) (ys.take i) ≤ i * 1000000000000000
  | 0, _, _ => by simp [dot]
  | i + 1, h1, h2 => by
    have ih := dot_in hx hy (i := i) (by omega) (by omega)
    rw [dot_succ (by omega) (by omega)]
    have a1 := num_iff.1 (List.all_eq_true.1 hx _ (List.getElem_mem (show i < xs.length by omega)))
    have a2 := big_iff.1 (List.all_eq_true.1 hy _ (List.getElem_mem (show i < ys.length by omega)))
    have := mul_in a1 a2
    rw [getD_lt (by omega), getD_lt (by omega)]
    omega
theorem term_iff {t : Tm} (h : t.term = true) : num t.c = true ∧ t.xs.all num = true ∧ t.xs.length ≤ 4 := by
  simp only [Tm.term, Tm.ok, Bool.and_eq_true, decide_eq_true_eq, Bool.not_eq_true'] at h
  obtain ⟨⟨h1, h2⟩, h3⟩ := h
  refine ⟨?_, h2, by omega⟩
  cases hn : num t.c with
  | true => rfl
  | false => rw [hn] at h1; simp at h1
theorem numsB_iff {xs : List Int} {n : Int} (h : numsB xs n = true) : xs.all big = true ∧ (xs.length : Int) = n := by simpa [numsB] using h

theorem c150 {L : Nat} (h1 : 4096 ≤ L) (h2 : L ≤ 1073741824) {s : Sm} : MC Try.prog L 150 [ptr s.cells] [] (Plain (eB (stmtB s))) := by
 refine MC.alone ?_ rfl
 have hσ := SGok (nt := 161) h1 (Nat.le_trans h2 (by decide))
 refine MC.body hσ Try.func150 (by kernel_rfl) rfl rfl (Nat.le_of_ble_eq_true rfl) (fun hF => ?_)
 refine AWP.seq ?_
 refine AWP.region ?_
 refine AOps.step (Val.of hσ rfl rfl) rfl rfl rfl ?_
 refine AOps.nil ?_
 refine AWP.seq ?_
 refine AWP.region ?_
 refine AOps.step (Val.of hσ rfl rfl) rfl rfl rfl ?_
 refine AOps.step (Val.of hσ rfl rfl) rfl rfl rfl ?_
 refine AOps.step (Val.of hσ rfl rfl) rfl rfl rfl ?_
 refine AOps.step (Val.of hσ rfl rfl) rfl rfl rfl ?_
 refine AOps.step (Val.of hσ rfl rfl) rfl rfl rfl ?_
 refine AOps.step (Val.of hσ rfl rfl) rfl rfl rfl ?_
 refine AOps.reset [(11, _), (2, _), (0, _)] [] ⟨rfl, rfl, rfl, trivial⟩ rfl ?_
 refine AOps.gr 5 rfl rfl rfl (fun hx => AN.step hx rfl rfl rfl (Val.of hσ rfl rfl) rfl rfl ( AN.step hx rfl rfl rfl (Val.of hσ rfl rfl) rfl rfl ( AN.step hx rfl rfl rfl (Val.of hσ rfl rfl) rfl rfl ( AN.step hx rfl rfl rfl (Val.of hσ rfl rfl) rfl rfl ( AN.step hx rfl rfl rfl (Val.of hσ rfl rfl) rfl rfl ( AN.nil)))))) rfl rfl ?_
 first | refine AOps.step (Val.pickF hσ rfl rfl rfl rfl rfl) rfl rfl rfl ?_ | refine AOps.step (Val.pickB hσ rfl rfl rfl rfl rfl) rfl rfl rfl ?_ | refine AOps.step (Val.pickT hσ rfl rfl rfl rfl rfl) rfl rfl rfl ?_
 refine AOps.step (Val.of hσ rfl rfl) rfl rfl rfl ?_
 refine AOps.reset [(18, _), (2, _), (0, _)] [] ⟨rfl, rfl, rfl, trivial⟩ rfl ?_
 refine AOps.gr 5 rfl rfl rfl (fun hx => AN.step hx rfl rfl rfl (Val.of hσ rfl rfl) rfl rfl ( AN.step hx rfl rfl rfl (Val.of hσ rfl rfl) rfl rfl ( AN.step hx rfl rfl rfl (Val.of hσ rfl rfl) rfl rfl ( AN.step hx rfl rfl rfl (Val.of hσ rfl rfl) rfl rfl ( AN.step hx rfl rfl rfl (Val.of hσ rfl rfl) rfl rfl ( AN.nil)))))) rfl rfl ?_
 first | refine AOps.step (Val.pickF hσ rfl rfl rfl rfl rfl) rfl rfl rfl ?_ | refine AOps.step (Val.pickB hσ rfl rfl rfl rfl rfl) rfl rfl rfl ?_ | refine AOps.step (Val.pickT hσ rfl rfl rfl rfl rfl) rfl rfl rfl ?_
 refine AOps.step (Val.of hσ rfl rfl) rfl rfl rfl ?_
 refine AOps.reset [(25, _), (2, _), (0, _)] [] ⟨rfl, rfl, rfl, trivial⟩ rfl ?_
 refine AOps.gr 5 rfl rfl rfl (fun hx => AN.step hx rfl rfl rfl (Val.of hσ rfl rfl) rfl rfl ( AN.step hx rfl rfl rfl (Val.of hσ rfl rfl) rfl rfl ( AN.step hx rfl rfl rfl (Val.of hσ rfl rfl) rfl rfl ( AN.step hx rfl rfl rfl (Val.of hσ rfl rfl) rfl rfl ( AN.step hx rfl rfl rfl (Val.of hσ rfl rfl) rfl rfl ( AN.nil)))))) rfl rfl ?_
 first | refine AOps.step (Val.pickF hσ rfl rfl rfl rfl rfl) rfl rfl rfl ?_ | refine AOps.step (Val.pickB hσ rfl rfl rfl rfl rfl) rfl rfl rfl ?_ | refine AOps.step (Val.pickT hσ rfl rfl rfl rfl rfl) rfl rfl rfl ?_
 refine AOps.step (Val.of hσ rfl rfl) rfl rfl rfl ?_
 refine AOps.reset [(32, _), (2, _), (0, _)] [] ⟨rfl, rfl, rfl, trivial⟩ rfl ?_
 refine AOps.gr 5 rfl rfl rfl (fun hx => AN.step hx rfl rfl rfl (Val.of hσ rfl rfl) rfl rfl ( AN.step hx rfl rfl rfl (Val.of hσ rfl rfl) rfl rfl ( AN.step hx rfl rfl rfl (Val.of hσ rfl rfl) rfl rfl ( AN.step hx rfl rfl rfl (Val.of hσ rfl rfl) rfl rfl ( AN.step hx rfl rfl rfl (Val.of hσ rfl rfl) rfl rfl ( AN.nil)))))) rfl rfl ?_
 first | refine AOps.step (Val.pickF hσ rfl rfl rfl rfl rfl) rfl rfl rfl ?_ | refine AOps.step (Val.pickB hσ rfl rfl rfl rfl rfl) rfl rfl rfl ?_ | refine AOps.step (Val.pickT hσ rfl rfl rfl rfl rfl) rfl rfl rfl ?_
 refine AOps.step (Val.of hσ rfl rfl) rfl rfl rfl ?_
 refine AOps.forget [(3, _), (2, _), (0, _)] ⟨rfl, rfl, rfl, trivial⟩ ?_
 refine AOps.nil ?_
 refine AWP.seq ?_
 refine AWP.region ?_
 refine AOps.step (Val.of hσ rfl rfl) rfl rfl rfl ?_
 refine AOps.step (Val.of hσ rfl rfl) rfl rfl rfl ?_
 refine AOps.step (Val.of hσ rfl rfl) rfl rfl rfl ?_
 refine AOps.step (Val.of hσ rfl rfl) rfl rfl rfl ?_
 refine AOps.step (Val.of hσ rfl rfl) rfl rfl rfl ?_
 refine AOps.step (Val.of hσ rfl rfl) rfl rfl rfl ?_
 refine AOps.reset [(44, _), (3, _), (2, _), (0, _)] [] ⟨rfl, rfl, rfl, rfl, trivial⟩ rfl ?_
 refine AOps.gr 5 rfl rfl rfl (fun hx => AN.step hx rfl rfl rfl (Val.of hσ rfl rfl) rfl rfl ( AN.step hx rfl rfl rfl (Val.of hσ rfl rfl) rfl rfl ( AN.step hx rfl rfl rfl (Val.of hσ rfl rfl) rfl rfl ( AN.step hx rfl rfl rfl (Val.of hσ rfl rfl) rfl rfl ( AN.step hx rfl rfl rfl (Val.of hσ rfl rfl) rfl rfl ( AN.nil)))))) rfl rfl ?_
 first | refine AOps.step (Val.pickF hσ rfl rfl rfl rfl rfl) rfl rfl rfl ?_ | refine AOps.step (Val.pickB hσ rfl rfl rfl rfl rfl) rfl rfl rfl ?_ | refine AOps.step (Val.pickT hσ rfl rfl rfl rfl rfl) rfl rfl rfl ?_
 refine AOps.step (Val.of hσ rfl rfl) rfl rfl rfl ?_
 refine AOps.forget [(4, _), (3, _), (2, _), (0, _)] ⟨rfl, rfl, rfl, rfl, trivial⟩ ?_
 refine AOps.nil ?_
 refine AWP.seq ?_
 refine AWP.region ?_
 refine AOps.step (Val.of hσ rfl rfl) rfl rfl rfl ?_
 refine AOps.step (Val.of hσ rfl rfl) rfl rfl rfl ?_
 refine AOps.step (Val.of hσ rfl rfl) rfl rfl rfl ?_
 refine AOps.step (Val.of hσ rfl rfl) rfl rfl rfl ?_
 refine AOps.step (Val.of hσ rfl rfl) rfl rfl rfl ?_
 refine AOps.step (Val.of hσ rfl rfl) rfl rfl rfl ?_
 refine AOps.reset [(56, _), (4, _), (3, _), (2, _), (0, _)] [] ⟨rfl, rfl, rfl, rfl, rfl, trivial⟩ rfl ?_
 refine AOps.gr 5 rfl rfl rfl (fun hx => AN.step hx rfl rfl rfl (Val.of hσ rfl rfl) rfl rfl ( AN.step hx rfl rfl rfl (Val.of hσ rfl rfl) rfl rfl ( AN.step hx rfl rfl rfl (Val.of hσ rfl rfl) rfl rfl ( AN.step hx rfl rfl rfl (Val.of hσ rfl rfl) rfl rfl ( AN.step hx rfl rfl rfl (Val.of hσ rfl rfl) rfl rfl ( AN.nil)))))) rfl rfl ?_
 first | refine AOps.step (Val.pickF hσ rfl rfl rfl rfl rfl) rfl rfl rfl ?_ | refine AOps.step (Val.pickB hσ rfl rfl rfl rfl rfl) rfl rfl rfl ?_ | refine AOps.step (Val.pickT hσ rfl rfl rfl rfl rfl) rfl rfl rfl ?_
 refine AOps.step (Val.of hσ rfl rfl) rfl rfl rfl ?_
 refine AOps.forget [(5, _), (4, _), (3, _), (2, _), (0, _)] ⟨rfl, rfl, rfl, rfl, rfl, trivial⟩ ?_
 refine AOps.nil ?_
 refine AWP.seq ?_
 refine AWP.seq ?_
 refine AWP.region ?_
 refine AOps.step (Val.of hσ rfl rfl) rfl rfl rfl ?_
 refine AOps.step (Val.of hσ rfl rfl) rfl rfl rfl ?_
 refine AOps.step (Val.of hσ rfl rfl) rfl rfl rfl ?_
 refine AOps.step (Val.of hσ rfl rfl) rfl rfl rfl ?_
 refine AOps.reset [(66, _), (5, _), (4, _), (3, _), (2, _), (0, _)] [] ⟨rfl, rfl, rfl, rfl, rfl, rfl, trivial⟩ rfl ?_
 refine AOps.lone hσ rfl rfl rfl rfl (c84 h1 h2) (VAs.self rfl) rfl rfl rfl rfl rfl (B0 := 68000) rfl ?_
 refine AOps.step (Val.of hσ rfl rfl) rfl rfl rfl ?_
 refine AOps.step (Val.of hσ rfl rfl) rfl rfl rfl ?_
 refine AOps.reset [(69, _), (5, _), (4, _), (3, _), (2, _), (0, _)] [] ⟨rfl, rfl, rfl, rfl, rfl, rfl, trivial⟩ rfl ?_
 refine AOps.gr 5 rfl rfl rfl (fun hx => AN.step hx rfl rfl rfl (Val.of hσ rfl rfl) rfl rfl ( AN.step hx rfl rfl rfl (Val.of hσ rfl rfl) rfl rfl ( AN.step hx rfl rfl rfl (Val.of hσ rfl rfl) rfl rfl ( AN.lone hσ hx rfl rfl rfl rfl (c149 (t := s.sum) h1 h2) (.cons (.c (.sub rfl)) .nil) rfl rfl rfl rfl rfl rfl rfl (B0 := 74000) rfl ( AN.step hx rfl rfl rfl (Val.of hσ rfl rfl) rfl rfl ( AN.nil)))))) rfl rfl ?_
 first | refine AOps.step (Val.pickF hσ rfl rfl rfl rfl rfl) rfl rfl rfl ?_ | refine AOps.step (Val.pickB hσ rfl rfl rfl rfl rfl) rfl rfl rfl ?_ | refine AOps.step (Val.pickT hσ rfl rfl rfl rfl rfl) rfl rfl rfl ?_
 refine AOps.step (Val.of hσ rfl rfl) rfl rfl rfl ?_
 refine AOps.reset [(76, _), (5, _), (4, _), (3, _), (2, _), (0, _)] [] ⟨rfl, rfl, rfl, rfl, rfl, rfl, trivial⟩ rfl ?_
 refine AOps.gr 5 rfl rfl rfl (fun hx => AN.step hx rfl rfl rfl (Val.of hσ rfl rfl) rfl rfl ( AN.step hx rfl rfl rfl (Val.of hσ rfl rfl) rfl rfl ( AN.step hx rfl rfl rfl (Val.of hσ rfl rfl) rfl rfl ( AN.lone hσ hx rfl rfl rfl rfl (c149 (t := s.index) h1 h2) (.cons (.c (.sub rfl)) .nil) rfl rfl rfl rfl rfl rfl rfl (B0 := 81000) rfl ( AN.step hx rfl rfl rfl (Val.of hσ rfl rfl) rfl rfl ( AN.nil)))))) rfl rfl ?_
 first | refine AOps.step (Val.pickF hσ rfl rfl rfl rfl rfl) rfl rfl rfl ?_ | refine AOps.step (Val.pickB hσ rfl rfl rfl rfl rfl) rfl rfl rfl ?_ | refine AOps.step (Val.pickT hσ rfl rfl rfl rfl rfl) rfl rfl rfl ?_
 refine AOps.step (Val.of hσ rfl rfl) rfl rfl rfl ?_
 refine AOps.reset [(83, _), (5, _), (4, _), (3, _), (2, _), (0, _)] [] ⟨rfl, rfl, rfl, rfl, rfl, rfl, trivial⟩ rfl ?_
 refine AOps.gr 6 rfl rfl rfl (fun hx => AN.step hx rfl rfl rfl (Val.of hσ rfl rfl) rfl rfl ( AN.step hx rfl rfl rfl (Val.of hσ rfl rfl) rfl rfl ( AN.step hx rfl rfl rfl (Val.of hσ rfl rfl) rfl rfl ( AN.step hx rfl rfl rfl (Val.of hσ rfl rfl) rfl rfl ( AN.lone hσ hx rfl rfl rfl rfl (c101 h1 h2) (VAs.self rfl) rfl rfl rfl rfl rfl rfl rfl (B0 := 89000) rfl ( AN.step hx rfl rfl rfl (Val.of hσ rfl rfl) rfl rfl ( AN.nil))))))) rfl rfl ?_
 first | refine AOps.step (Val.pickF hσ rfl rfl rfl rfl rfl) rfl rfl rfl ?_ | refine AOps.step (Val.pickB hσ rfl rfl rfl rfl rfl) rfl rfl rfl ?_ | refine AOps.step (Val.pickT hσ rfl rfl rfl rfl rfl) rfl rfl rfl ?_
 refine AOps.forget [(90, _), (5, _), (4, _), (3, _), (2, _), (0, _)] ⟨rfl, rfl, rfl, rfl, rfl, rfl, trivial⟩ ?_
 refine AOps.nil ?_
 refine AWP.cond hσ rfl rfl (fun hc90 => ?_) (fun hc90 => ?_)
 ·
  skip
  refine AWP.seq ?_
  refine AWP.region ?_
  refine AOps.step (Val.of hσ rfl rfl) rfl rfl rfl ?_
  refine AOps.nil ?_
  refine AWP.ret ?_
  refine ⟨.inl rfl, _, Ent.refl, _, rfl, ?_⟩
  rw [stmtB, show sB1 s = true from hc90]; rfl
 ·
  skip
  refine AWP.skip ?_
  refine AWP.seq ?_
  refine AWP.seq ?_
  refine AWP.region ?_
  refine AOps.step (Val.of hσ rfl rfl) rfl rfl rfl ?_
  refine AOps.step (Val.of hσ rfl rfl) rfl rfl rfl ?_
  refine AOps.step (Val.of hσ rfl rfl) rfl rfl rfl ?_
  refine AOps.reset [(93, _), (5, _), (4, _), (2, _), (0, _)] [] ⟨rfl, rfl, rfl, rfl, rfl, trivial⟩ rfl ?_
  refine AOps.gr 5 rfl rfl rfl (fun hx => AN.step hx rfl rfl rfl (Val.of hσ rfl rfl) rfl rfl ( AN.step hx rfl rfl rfl (Val.of hσ rfl rfl) rfl rfl ( AN.step hx rfl rfl rfl (Val.of hσ rfl rfl) rfl rfl ( AN.lone hσ hx rfl rfl rfl rfl (c179 (t := s.sum) h1 h2) (.cons (.c (.sub rfl)) .nil) rfl rfl rfl rfl rfl rfl rfl (B0 := 98000) rfl ( AN.step hx rfl rfl rfl (Val.of hσ rfl rfl) rfl rfl ( AN.nil)))))) rfl rfl ?_
  first | refine AOps.step (Val.pickT hσ rfl rfl rfl rfl rfl) rfl rfl rfl ?_ | refine AOps.step (Val.pickF hσ rfl rfl rfl rfl rfl) rfl rfl rfl ?_ | refine AOps.step (Val.pickB hσ rfl rfl rfl rfl rfl) rfl rfl rfl ?_
  refine AOps.step (Val.of hσ rfl rfl) rfl rfl rfl ?_
  refine AOps.reset [(100, _), (5, _), (4, _), (2, _), (0, _)] [] ⟨rfl, rfl, rfl, rfl, rfl, trivial⟩ rfl ?_
  refine AOps.gr 9 rfl rfl rfl (fun hx => AN.step hx rfl rfl rfl (Val.of hσ rfl rfl) rfl rfl ( AN.step hx rfl rfl rfl (Val.of hσ rfl rfl) rfl rfl ( AN.step hx rfl rfl rfl (Val.of hσ rfl rfl) rfl rfl ( AN.grp 5 rfl rfl rfl rfl (fun hx' => AN.step hx' rfl rfl rfl (Val.of hσ rfl rfl) rfl rfl ( AN.step hx' rfl rfl rfl (Val.of hσ rfl rfl) rfl rfl ( AN.step hx' rfl rfl rfl (Val.of hσ rfl rfl) rfl rfl ( AN.lone hσ hx' rfl rfl rfl rfl (c179 (t := s.index) h1 h2) (.cons (.c (.sub rfl)) .nil) rfl rfl rfl rfl rfl rfl rfl (B0 := 108000) rfl ( AN.step hx' rfl rfl rfl (Val.of hσ rfl rfl) rfl rfl ( AN.nil)))))) rfl rfl ( AN.step hx rfl rfl rfl (Val.pickT hσ rfl rfl rfl rfl rfl) rfl rfl ( AN.nil)))))) rfl rfl ?_
  first | refine AOps.step (Val.pickF hσ rfl rfl rfl rfl rfl) rfl rfl rfl ?_ | refine AOps.step (Val.pickB hσ rfl rfl rfl rfl rfl) rfl rfl rfl ?_ | refine AOps.step (Val.pickT hσ rfl rfl rfl rfl rfl) rfl rfl rfl ?_
  refine AOps.step (Val.of hσ rfl rfl) rfl rfl rfl ?_
  refine AOps.reset [(111, _), (5, _), (2, _), (0, _)] [] ⟨rfl, rfl, rfl, rfl, trivial⟩ rfl ?_
  refine AOps.gr 13 rfl rfl rfl (fun hx => AN.step hx rfl rfl rfl (Val.of hσ rfl rfl) rfl rfl ( AN.step hx rfl rfl rfl (Val.of hσ rfl rfl) rfl rfl ( AN.step hx rfl rfl rfl (Val.of hσ rfl rfl) rfl rfl ( AN.step hx rfl rfl rfl (Val.of hσ rfl rfl) rfl rfl ( AN.step hx rfl rfl rfl (Val.of hσ rfl rfl) rfl rfl ( AN.step hx rfl rfl rfl (Val.of hσ rfl rfl) rfl rfl ( AN.grp 6 rfl rfl rfl rfl (fun hx' => AN.step hx' rfl rfl rfl (Val.of hσ rfl rfl) rfl rfl ( AN.step hx' rfl rfl rfl (Val.of hσ rfl rfl) rfl rfl ( AN.step hx' rfl rfl rfl (Val.of hσ rfl rfl) rfl rfl ( AN.step hx' rfl rfl rfl (Val.of hσ rfl rfl) rfl rfl ( AN.step hx' rfl rfl rfl (Val.lenD hσ rfl rfl rfl rfl rfl rfl rfl rfl) rfl rfl ( AN.step hx' rfl rfl rfl (Val.of hσ rfl rfl) rfl rfl ( AN.nil))))))) rfl rfl ( AN.step hx rfl rfl rfl (Val.pickT hσ rfl rfl rfl rfl rfl) rfl rfl ( AN.nil))))))))) rfl rfl ?_
  first | refine AOps.step (Val.pickF hσ rfl rfl rfl rfl rfl) rfl rfl rfl ?_ | refine AOps.step (Val.pickB hσ rfl rfl rfl rfl rfl) rfl rfl rfl ?_ | refine AOps.step (Val.pickT hσ rfl rfl rfl rfl rfl) rfl rfl rfl ?_
  refine AOps.forget [(125, _), (5, _), (2, _), (0, _)] ⟨rfl, rfl, rfl, rfl, trivial⟩ ?_
  refine AOps.nil ?_
  refine AWP.cond hσ rfl rfl (fun hc125 => ?_) (fun hc125 => ?_)
  ·
   skip
   refine AWP.seq ?_
   refine AWP.region ?_
   refine AOps.step (Val.of hσ rfl rfl) rfl rfl rfl ?_
   refine AOps.nil ?_
   refine AWP.ret ?_
   refine ⟨.inl rfl, _, Ent.refl, _, rfl, ?_⟩
   rw [stmtB, show sB1 s = false from hc90, show sB2 s = true from hc125]; rfl
  ·
   skip
   refine AWP.skip ?_
   refine AWP.seq ?_
   refine AWP.seq ?_
   refine AWP.region ?_
   refine AOps.step (Val.of hσ rfl rfl) rfl rfl rfl ?_
   refine AOps.step (Val.of hσ rfl rfl) rfl rfl rfl ?_
   refine AOps.reset [(127, _), (5, _), (2, _), (0, _)] [] ⟨rfl, rfl, rfl, rfl, trivial⟩ rfl ?_
   refine AOps.gr 6 rfl rfl rfl (fun hx => AN.step hx rfl rfl rfl (Val.of hσ rfl rfl) rfl rfl ( AN.step hx rfl rfl rfl (Val.of hσ rfl rfl) rfl rfl ( AN.step hx rfl rfl rfl (Val.of hσ rfl rfl) rfl rfl ( AN.step hx rfl rfl rfl (Val.of hσ rfl rfl) rfl rfl ( AN.lone hσ hx rfl rfl rfl rfl (c84 h1 h2) (VAs.self rfl) rfl rfl rfl rfl rfl rfl rfl (B0 := 133000) rfl ( AN.step hx rfl rfl rfl (Val.of hσ rfl rfl) rfl rfl ( AN.nil))))))) rfl rfl ?_
   first | refine AOps.step (Val.pickT hσ rfl rfl rfl rfl rfl) rfl rfl rfl ?_ | refine AOps.step (Val.pickF hσ rfl rfl rfl rfl rfl) rfl rfl rfl ?_ | refine AOps.step (Val.pickB hσ rfl rfl rfl rfl rfl) rfl rfl rfl ?_
   refine AOps.step (Val.of hσ rfl rfl) rfl rfl rfl ?_
   refine AOps.reset [(135, _), (5, _), (2, _), (0, _)] [] ⟨rfl, rfl, rfl, rfl, trivial⟩ rfl ?_
   refine AOps.gr 9 rfl rfl rfl (fun hx => AN.step hx rfl rfl rfl (Val.of hσ rfl rfl) rfl rfl ( AN.step hx rfl rfl rfl (Val.of hσ rfl rfl) rfl rfl ( AN.step hx rfl rfl rfl (Val.of hσ rfl rfl) rfl rfl ( AN.grp 5 rfl rfl rfl rfl (fun hx' => AN.step hx' rfl rfl rfl (Val.of hσ rfl rfl) rfl rfl ( AN.step hx' rfl rfl rfl (Val.of hσ rfl rfl) rfl rfl ( AN.step hx' rfl rfl rfl (Val.of hσ rfl rfl) rfl rfl ( AN.step hx' rfl rfl rfl (Val.of hσ rfl rfl) rfl rfl ( AN.step hx' rfl rfl rfl (Val.of hσ rfl rfl) rfl rfl ( AN.nil)))))) rfl rfl ( AN.step hx rfl rfl rfl (Val.pickT hσ rfl rfl rfl rfl rfl) rfl rfl ( AN.nil)))))) rfl rfl ?_
   first | refine AOps.step (Val.pickF hσ rfl rfl rfl rfl rfl) rfl rfl rfl ?_ | refine AOps.step (Val.pickB hσ rfl rfl rfl rfl rfl) rfl rfl rfl ?_ | refine AOps.step (Val.pickT hσ rfl rfl rfl rfl rfl) rfl rfl rfl ?_
   refine AOps.forget [(145, _), (2, _), (0, _)] ⟨rfl, rfl, rfl, trivial⟩ ?_
   refine AOps.nil ?_
   refine AWP.cond hσ rfl rfl (fun hc145 => ?_) (fun hc145 => ?_)
   ·
    skip
    refine AWP.seq ?_
    refine AWP.region ?_
    refine AOps.step (Val.of hσ rfl rfl) rfl rfl rfl ?_
    refine AOps.nil ?_
    refine AWP.ret ?_
    refine ⟨.inl rfl, _, Ent.refl, _, rfl, ?_⟩
    rw [stmtB, show sB1 s = false from hc90, show sB2 s = false from hc125, show sB3 s = true from hc145]; rfl
   ·
    skip
    refine AWP.skip ?_
    refine AWP.seq ?_
    refine AWP.seq ?_
    refine AWP.region ?_
    refine AOps.step (Val.of hσ rfl rfl) rfl rfl rfl ?_
    refine AOps.step (Val.of hσ rfl rfl) rfl rfl rfl ?_
    refine AOps.step (Val.of hσ rfl rfl) rfl rfl rfl ?_
    refine AOps.step (Val.of hσ rfl rfl) rfl rfl rfl ?_
    refine AOps.step (Val.of hσ rfl rfl) rfl rfl rfl ?_
    refine AOps.forget [(150, _), (2, _), (0, _)] ⟨rfl, rfl, rfl, trivial⟩ ?_
    refine AOps.nil ?_
    refine AWP.cond hσ rfl rfl (fun hc150 => ?_) (fun hc150 => ?_)
    ·
     skip
     refine AWP.seq ?_
     refine AWP.region ?_
     refine AOps.step (Val.of hσ rfl rfl) rfl rfl rfl ?_
     refine AOps.step (Val.of hσ rfl rfl) rfl rfl rfl ?_
     refine AOps.step (Val.of hσ rfl rfl) rfl rfl rfl ?_
     refine AOps.step (Val.of hσ rfl rfl) rfl rfl rfl ?_
     refine AOps.reset [(154, _), (2, _), (0, _)] [] ⟨rfl, rfl, rfl, trivial⟩ rfl ?_
     refine AOps.lone hσ rfl rfl rfl rfl (c84 h1 h2) (VAs.self rfl) rfl rfl rfl rfl rfl (B0 := 156000) rfl ?_
     refine AOps.step (Val.of hσ rfl rfl) rfl rfl rfl ?_
     refine AOps.forget [(2, _), (0, _)] ⟨rfl, rfl, trivial⟩ ?_
     refine AOps.nil ?_
     refine AWP.ret ?_
     refine ⟨.inl rfl, _, Ent.refl, _, rfl, ?_⟩
     rw [stmtB, show sB1 s = false from hc90, show sB2 s = false from hc125, show sB3 s = false from hc145, hc150]; rfl
    ·
     skip
     refine AWP.skip ?_
     refine AWP.seq ?_
     refine AWP.region ?_
     refine AOps.step (Val.of hσ rfl rfl) rfl rfl rfl ?_
     refine AOps.step (Val.of hσ rfl rfl) rfl rfl rfl ?_
     refine AOps.step (Val.of hσ rfl rfl) rfl rfl rfl ?_
     refine AOps.step (Val.of hσ rfl rfl) rfl rfl rfl ?_
     refine AOps.step (Val.of hσ rfl rfl) rfl rfl rfl ?_
     refine AOps.step (Val.of hσ rfl rfl) rfl rfl rfl ?_
     refine AOps.forget [(2, _), (0, _)] ⟨rfl, rfl, trivial⟩ ?_
     refine AOps.nil ?_
     refine AWP.ret ?_
     refine ⟨.inl rfl, _, Ent.refl, _, rfl, ?_⟩
     rw [stmtB, show sB1 s = false from hc90, show sB2 s = false from hc125, show sB3 s = false from hc145, hc150]; rfl
theorem c102 {L : Nat} (h1 : 4096 ≤ L) (h2 : L ≤ 1073741824) {b : List Sm} : MC Try.prog L 102 [.c (.d (sms b))] [] (Plain (eB (bodyB b))) := by
 refine MC.alone ?_ rfl
 have hσ := SGok (nt := 24) h1 (Nat.le_trans h2 (by decide))
 refine MC.body hσ Try.func102 (by kernel_rfl) rfl rfl (Nat.le_of_ble_eq_true rfl) (fun hF => ?_)
 have hl : b.length ≤ L := by simpa [As.fact, A.fact, M.fact, D.fact, Ds.fact] using hF.1.1
 refine AWP.seq ?_
 refine AWP.region ?_
 refine AOps.step (Val.of hσ rfl rfl) rfl rfl rfl ?_
 refine AOps.nil ?_
 refine AWP.seq ?_
 refine AWP.seq ?_
 refine AWP.region ?_
 refine AOps.step (Val.of hσ rfl rfl) rfl rfl rfl ?_
 first | refine AOps.step (Val.lenD hσ rfl rfl rfl rfl rfl rfl rfl rfl) rfl rfl rfl ?_ | refine AOps.step (Val.of hσ rfl rfl) rfl rfl rfl ?_ | refine AOps.step (Val.vif hσ rfl rfl (by first | omega | (simp at *; omega))) rfl rfl rfl ?_
 refine AOps.lone hσ rfl rfl rfl rfl (c84 h1 h2) (VAs.self rfl) rfl rfl rfl rfl rfl (B0 := 7000) rfl ?_
 refine AOps.step (Val.of hσ rfl rfl) rfl rfl rfl ?_
 refine AOps.nil ?_
 refine AWP.cond hσ rfl rfl (fun hc7 => ?_) (fun hc7 => ?_)
 ·
  try simp only [List.length_map, beq_iff_eq, decide_eq_true_eq, decide_eq_false_iff_not, Bool.not_eq_true', Bool.not_eq_false', Bool.not_true, Bool.not_false, Int.not_lt, Int.not_le] at hc7
  refine AWP.seq ?_
  refine AWP.region ?_
  refine AOps.step (Val.of hσ rfl rfl) rfl rfl rfl ?_
  refine AOps.nil ?_
  refine AWP.ret ?_
  refine ⟨.inl rfl, _, Ent.refl, _, rfl, ?_⟩
  rw [bodyB, show (decide ((1 : Int) ≤ b.length) && decide ((b.length : Int) ≤ 30)) = false from hc7, Bool.false_and]
 ·
  try simp only [List.length_map, beq_iff_eq, decide_eq_true_eq, decide_eq_false_iff_not, Bool.not_eq_true', Bool.not_eq_false', Bool.not_true, Bool.not_false, Int.not_lt, Int.not_le] at hc7
  refine AWP.skip ?_
  refine AWP.seq ?_
  refine AWP.seq ?_
  refine AWP.region ?_
  refine AOps.step (Val.of hσ rfl rfl) rfl rfl rfl ?_
  refine AOps.nil ?_
  refine AWP.block ?_
  refine AWP.loopP (X := Nat) (fun i => ⟨[(0, .c (.d (sms b))), (3, eI i)], []⟩) (fun i => i ≤ b.length ∧ ∀ j (h : j < b.length), j < i → stmtB b[j] = true) (fun i => b.length - i) 0 (Ent.env ⟨rfl, rfl, trivial⟩) ?_ (fun i hi => ?_)
  ·
   exact ⟨Nat.zero_le _, fun j h hj => absurd hj (Nat.not_lt_zero j)⟩
  refine AWP.seq ?_
  refine AWP.seq ?_
  refine AWP.region ?_
  refine AOps.step (Val.of hσ rfl rfl) rfl rfl rfl ?_
  refine AOps.step (Val.of hσ rfl rfl) rfl rfl rfl ?_
  first | refine AOps.step (Val.lenD hσ rfl rfl rfl rfl rfl rfl rfl rfl) rfl rfl rfl ?_ | refine AOps.step (Val.of hσ rfl rfl) rfl rfl rfl ?_ | refine AOps.step (Val.vif hσ rfl rfl (by first | omega | (simp at *; omega))) rfl rfl rfl ?_
  refine AOps.step (Val.of hσ rfl rfl) rfl rfl rfl ?_
  refine AOps.nil ?_
  refine AWP.cond hσ rfl rfl (fun hc11 => ?_) (fun hc11 => ?_)
  ·
   try simp only [List.length_map, beq_iff_eq, decide_eq_true_eq, decide_eq_false_iff_not, Bool.not_eq_true', Bool.not_eq_false', Bool.not_true, Bool.not_false, Int.not_lt, Int.not_le] at hc11
   refine AWP.skip ?_
   refine AWP.seq ?_
   refine AWP.block ?_
   refine AWP.seq ?_
   refine AWP.region ?_
   refine AOps.step (Val.of hσ rfl rfl) rfl rfl rfl ?_
   refine AOps.step (Val.of hσ rfl rfl) rfl rfl rfl ?_
   first | refine AOps.step (Val.indexD hσ rfl rfl rfl rfl rfl rfl rfl rfl (by first | omega | (simp at *; omega)) (idx_get (by first | omega | (simp at *; omega)) (by first | omega | (simp at *; omega)))) rfl rfl rfl ?_ | refine AOps.step (Val.vif hσ rfl rfl (by first | omega | (simp at *; omega))) rfl rfl rfl ?_
   refine AOps.lone hσ rfl rfl rfl rfl (c150 h1 h2) (VAs.self rfl) rfl rfl rfl rfl rfl (B0 := 18000) rfl ?_
   refine AOps.step (Val.of hσ rfl rfl) rfl rfl rfl ?_
   refine AOps.nil ?_
   refine AWP.cond hσ rfl rfl (fun hc18 => ?_) (fun hc18 => ?_)
   ·
    try simp only [List.length_map, beq_iff_eq, decide_eq_true_eq, decide_eq_false_iff_not, Bool.not_eq_true', Bool.not_eq_false', Bool.not_true, Bool.not_false, Int.not_lt, Int.not_le] at hc18
    refine AWP.seq ?_
    refine AWP.region ?_
    refine AOps.step (Val.of hσ rfl rfl) rfl rfl rfl ?_
    refine AOps.nil ?_
    refine AWP.ret ?_
    refine ⟨.inl rfl, _, Ent.refl, _, rfl, ?_⟩
    rw [Int.toNat_natCast, getD_lt (by omega)] at hc18
    rw [bodyB, all_not i (by omega) hc18, Bool.false_and, Bool.and_false]
   ·
    try simp only [List.length_map, beq_iff_eq, decide_eq_true_eq, decide_eq_false_iff_not, Bool.not_eq_true', Bool.not_eq_false', Bool.not_true, Bool.not_false, Int.not_lt, Int.not_le] at hc18
    refine AWP.skip ?_
    refine AWP.region ?_
    refine AOps.step (Val.of hσ rfl rfl) rfl rfl rfl ?_
    first | refine AOps.step (Val.fits64 hσ rfl rfl (by first | omega | (simp at *; omega)) (by first | omega | (simp at *; omega))) rfl rfl rfl ?_ | refine AOps.step (Val.vif hσ rfl rfl (by first | omega | (simp at *; omega))) rfl rfl rfl ?_
    refine AOps.step (Val.of hσ rfl rfl) rfl rfl rfl ?_
    refine AOps.nil ?_
    refine ⟨i + 1, Ent.env ⟨rfl, rfl, trivial⟩, ⟨by omega, fun j h hj => ?_⟩, by omega⟩
    by_cases e : j = i
    ·
     subst e; rw [Int.toNat_natCast, getD_lt h] at hc18; exact hc18
    ·
     exact hi.2 j h (by omega)
  ·
   try simp only [List.length_map, beq_iff_eq, decide_eq_true_eq, decide_eq_false_iff_not, Bool.not_eq_true', Bool.not_eq_false', Bool.not_true, Bool.not_false, Int.not_lt, Int.not_le] at hc11
   refine AWP.exit ?_
   refine AWP.seq ?_
   refine AWP.region ?_
   refine AOps.step (Val.of hσ rfl rfl) rfl rfl rfl ?_
   refine AOps.lone hσ rfl rfl rfl rfl (c105 (k := 0) h1 h2 (Nat.zero_le _)) (VAs.self rfl) rfl rfl rfl rfl rfl (B0 := 21000) rfl ?_
   refine AOps.step (Val.of hσ rfl rfl) rfl rfl rfl ?_
   first | refine AOps.step (Val.lenD hσ rfl rfl rfl rfl rfl rfl rfl rfl) rfl rfl rfl ?_ | refine AOps.step (Val.of hσ rfl rfl) rfl rfl rfl ?_ | refine AOps.step (Val.vif hσ rfl rfl (by first | omega | (simp at *; omega))) rfl rfl rfl ?_
   refine AOps.step (Val.of hσ rfl rfl) rfl rfl rfl ?_
   refine AOps.step (Val.of hσ rfl rfl) rfl rfl rfl ?_
   refine AOps.nil ?_
   refine AWP.ret ?_
   refine ⟨.inl rfl, _, Ent.refl, _, rfl, ?_⟩
   rw [bodyB, show (decide ((1 : Int) ≤ b.length) && decide ((b.length : Int) ≤ 30)) = true from hc7, all_of (fun j hj => hi.2 j hj (by omega)), Bool.true_and, Bool.true_and]
theorem c55 {L : Nat} (h1 : 4096 ≤ L) (h2 : L ≤ 1073741824) {p : Pm} : MC Try.prog L 55 [ptr p.data] [] (Plain (eB (progB p))) := by
 refine MC.alone ?_ rfl
 have hσ := SGok (nt := 22) h1 (Nat.le_trans h2 (by decide))
 refine MC.body hσ Try.func55 (by kernel_rfl) rfl rfl (Nat.le_of_ble_eq_true rfl) (fun hF => ?_)
 refine AWP.seq ?_
 refine AWP.region ?_
 refine AOps.step (Val.of hσ rfl rfl) rfl rfl rfl ?_
 refine AOps.nil ?_
 refine AWP.seq ?_
 refine AWP.region ?_
 refine AOps.step (Val.of hσ rfl rfl) rfl rfl rfl ?_
 refine AOps.step (Val.of hσ rfl rfl) rfl rfl rfl ?_
 refine AOps.step (Val.of hσ rfl rfl) rfl rfl rfl ?_
 refine AOps.step (Val.of hσ rfl rfl) rfl rfl rfl ?_
 refine AOps.reset [(6, _), (2, _), (0, _)] [] ⟨rfl, rfl, rfl, trivial⟩ rfl ?_
 refine AOps.lone hσ rfl rfl rfl rfl (c101 h1 h2) (VAs.self rfl) rfl rfl rfl rfl rfl (B0 := 8000) rfl ?_
 refine AOps.step (Val.of hσ rfl rfl) rfl rfl rfl ?_
 refine AOps.reset [(8, _), (2, _), (0, _)] [] ⟨rfl, rfl, rfl, trivial⟩ rfl ?_
 refine AOps.gr 5 rfl rfl rfl (fun hx => AN.step hx rfl rfl rfl (Val.of hσ rfl rfl) rfl rfl ( AN.step hx rfl rfl rfl (Val.of hσ rfl rfl) rfl rfl ( AN.step hx rfl rfl rfl (Val.of hσ rfl rfl) rfl rfl ( AN.step hx rfl rfl rfl (Val.of hσ rfl rfl) rfl rfl ( AN.lone hσ hx rfl rfl rfl rfl (c102 h1 h2) (VAs.self rfl) rfl rfl rfl rfl rfl rfl rfl (B0 := 14000) rfl ( AN.nil)))))) rfl rfl ?_
 first | refine AOps.step (Val.pickT hσ rfl rfl rfl rfl rfl) rfl rfl rfl ?_ | refine AOps.step (Val.pickF hσ rfl rfl rfl rfl rfl) rfl rfl rfl ?_ | refine AOps.step (Val.pickB hσ rfl rfl rfl rfl rfl) rfl rfl rfl ?_
 refine AOps.step (Val.of hσ rfl rfl) rfl rfl rfl ?_
 refine AOps.reset [(15, _), (2, _), (0, _)] [] ⟨rfl, rfl, rfl, trivial⟩ rfl ?_
 refine AOps.gr 5 rfl rfl rfl (fun hx => AN.step hx rfl rfl rfl (Val.of hσ rfl rfl) rfl rfl ( AN.step hx rfl rfl rfl (Val.of hσ rfl rfl) rfl rfl ( AN.step hx rfl rfl rfl (Val.of hσ rfl rfl) rfl rfl ( AN.step hx rfl rfl rfl (Val.of hσ rfl rfl) rfl rfl ( AN.lone hσ hx rfl rfl rfl rfl (c101 h1 h2) (VAs.self rfl) rfl rfl rfl rfl rfl rfl rfl (B0 := 21000) rfl ( AN.nil)))))) rfl rfl ?_
 first | refine AOps.step (Val.pickT hσ rfl rfl rfl rfl rfl) rfl rfl rfl ?_ | refine AOps.step (Val.pickF hσ rfl rfl rfl rfl rfl) rfl rfl rfl ?_ | refine AOps.step (Val.pickB hσ rfl rfl rfl rfl rfl) rfl rfl rfl ?_
 refine AOps.step (Val.of hσ rfl rfl) rfl rfl rfl ?_
 refine AOps.forget [(2, _)] ⟨rfl, trivial⟩ ?_
 refine AOps.nil ?_
 refine AWP.ret ?_
 refine ⟨.inl rfl, _, Ent.refl, _, rfl, ?_⟩
 rw [Bool.cond_false_right, Bool.cond_false_right, Bool.and_assoc]; rfl
theorem c103 {L : Nat} (h1 : 4096 ≤ L) (h2 : L ≤ 1073741824) {xs : List Int} {n : Int} : MC Try.prog L 103 [aints xs, eI n] [] (Plain (eB (numsB xs n))) := by
 refine MC.alone ?_ rfl
 have hσ := SGok (nt := 22) h1 (Nat.le_trans h2 (by decide))
 refine MC.body hσ Try.func103 (by kernel_rfl) rfl rfl (Nat.le_of_ble_eq_true rfl) (fun hF => ?_)
 have hl : xs.length ≤ L := by simpa [As.fact, A.fact, M.fact, D.fact, Ds.fact] using hF.1.1
 refine AWP.seq ?_
 refine AWP.region ?_
 refine AOps.step (Val.of hσ rfl rfl) rfl rfl rfl ?_
 refine AOps.nil ?_
 refine AWP.seq ?_
 refine AWP.seq ?_
 refine AWP.region ?_
 refine AOps.step (Val.of hσ rfl rfl) rfl rfl rfl ?_
 refine AOps.nil ?_
 refine AWP.block ?_
 refine AWP.loopP (X := Nat) (fun i => ⟨[(0, aints xs), (1, eI n), (5, eI i)], []⟩) (fun i => i ≤ xs.length ∧ ∀ j (h : j < xs.length), j < i → big xs[j] = true) (fun i => xs.length - i) 0 (Ent.env ⟨rfl, rfl, rfl, trivial⟩) ?_ (fun i hi => ?_)
 ·
  exact ⟨Nat.zero_le _, fun j h hj => absurd hj (Nat.not_lt_zero j)⟩
 refine AWP.seq ?_
 refine AWP.seq ?_
 refine AWP.region ?_
 refine AOps.step (Val.of hσ rfl rfl) rfl rfl rfl ?_
 refine AOps.step (Val.of hσ rfl rfl) rfl rfl rfl ?_
 first | refine AOps.step (Val.lenD hσ rfl rfl rfl rfl rfl rfl rfl rfl) rfl rfl rfl ?_ | refine AOps.step (Val.of hσ rfl rfl) rfl rfl rfl ?_ | refine AOps.step (Val.vif hσ rfl rfl (by first | omega | (simp at *; omega))) rfl rfl rfl ?_
 refine AOps.step (Val.of hσ rfl rfl) rfl rfl rfl ?_
 refine AOps.nil ?_
 refine AWP.cond hσ rfl rfl (fun hc9 => ?_) (fun hc9 => ?_)
 ·
  try simp only [List.length_map, beq_iff_eq, decide_eq_true_eq, decide_eq_false_iff_not, Bool.not_eq_true', Bool.not_eq_false', Bool.not_true, Bool.not_false, Int.not_lt, Int.not_le] at hc9
  refine AWP.skip ?_
  refine AWP.seq ?_
  refine AWP.block ?_
  refine AWP.seq ?_
  refine AWP.region ?_
  refine AOps.step (Val.of hσ rfl rfl) rfl rfl rfl ?_
  refine AOps.step (Val.of hσ rfl rfl) rfl rfl rfl ?_
  first | refine AOps.step (Val.indexD hσ rfl rfl rfl rfl rfl rfl rfl rfl (by first | omega | (simp at *; omega)) (idx_get (by first | omega | (simp at *; omega)) (by first | omega | (simp at *; omega)))) rfl rfl rfl ?_ | refine AOps.step (Val.vif hσ rfl rfl (by first | omega | (simp at *; omega))) rfl rfl rfl ?_
  refine AOps.step (Val.of hσ rfl rfl) rfl rfl rfl ?_
  refine AOps.lone hσ rfl rfl rfl rfl (c84 h1 h2) (VAs.self rfl) rfl rfl rfl rfl rfl (B0 := 17000) rfl ?_
  refine AOps.step (Val.of hσ rfl rfl) rfl rfl rfl ?_
  refine AOps.nil ?_
  refine AWP.cond hσ rfl rfl (fun hc17 => ?_) (fun hc17 => ?_)
  ·
   try simp only [List.length_map, beq_iff_eq, decide_eq_true_eq, decide_eq_false_iff_not, Bool.not_eq_true', Bool.not_eq_false', Bool.not_true, Bool.not_false, Int.not_lt, Int.not_le] at hc17
   refine AWP.seq ?_
   refine AWP.region ?_
   refine AOps.step (Val.of hσ rfl rfl) rfl rfl rfl ?_
   refine AOps.nil ?_
   refine AWP.ret ?_
   refine ⟨.inl rfl, _, Ent.refl, _, rfl, ?_⟩
   rw [Int.toNat_natCast, getD_lt (by omega)] at hc17
   rw [numsB, all_not i (by omega) hc17, Bool.false_and]
  ·
   try simp only [List.length_map, beq_iff_eq, decide_eq_true_eq, decide_eq_false_iff_not, Bool.not_eq_true', Bool.not_eq_false', Bool.not_true, Bool.not_false, Int.not_lt, Int.not_le] at hc17
   refine AWP.skip ?_
   refine AWP.region ?_
   refine AOps.step (Val.of hσ rfl rfl) rfl rfl rfl ?_
   first | refine AOps.step (Val.fits64 hσ rfl rfl (by first | omega | (simp at *; omega)) (by first | omega | (simp at *; omega))) rfl rfl rfl ?_ | refine AOps.step (Val.vif hσ rfl rfl (by first | omega | (simp at *; omega))) rfl rfl rfl ?_
   refine AOps.step (Val.of hσ rfl rfl) rfl rfl rfl ?_
   refine AOps.nil ?_
   refine ⟨i + 1, Ent.env ⟨rfl, rfl, rfl, trivial⟩, ⟨by omega, fun j h hj => ?_⟩, by omega⟩
   by_cases e : j = i
   ·
    subst e; rw [Int.toNat_natCast, getD_lt h] at hc17; exact hc17
   ·
    exact hi.2 j h (by omega)
 ·
  try simp only [List.length_map, beq_iff_eq, decide_eq_true_eq, decide_eq_false_iff_not, Bool.not_eq_true', Bool.not_eq_false', Bool.not_true, Bool.not_false, Int.not_lt, Int.not_le] at hc9
  refine AWP.exit ?_
  refine AWP.seq ?_
  refine AWP.region ?_
  refine AOps.step (Val.of hσ rfl rfl) rfl rfl rfl ?_
  first | refine AOps.step (Val.lenD hσ rfl rfl rfl rfl rfl rfl rfl rfl) rfl rfl rfl ?_ | refine AOps.step (Val.of hσ rfl rfl) rfl rfl rfl ?_ | refine AOps.step (Val.vif hσ rfl rfl (by first | omega | (simp at *; omega))) rfl rfl rfl ?_
  refine AOps.step (Val.of hσ rfl rfl) rfl rfl rfl ?_
  refine AOps.step (Val.of hσ rfl rfl) rfl rfl rfl ?_
  refine AOps.step (Val.of hσ rfl rfl) rfl rfl rfl ?_
  refine AOps.nil ?_
  refine AWP.ret ?_
  refine ⟨.inl rfl, _, Ent.refl, _, rfl, ?_⟩
  rw [numsB, all_of (fun j hj => hi.2 j hj (by omega)), Bool.true_and]
theorem c56 {L : Nat} (h1 : 4096 ≤ L) (h2 : L ≤ 1073741824) {s : Sx} : MC Try.prog L 56 [ptr s.data] [] (Plain (eB (stB s))) := by
 refine MC.alone ?_ rfl
 have hσ := SGok (nt := 15) h1 (Nat.le_trans h2 (by decide))
 refine MC.body hσ Try.func56 (by kernel_rfl) rfl rfl (Nat.le_of_ble_eq_true rfl) (fun hF => ?_)
 refine AWP.seq ?_
 refine AWP.region ?_
 refine AOps.step (Val.of hσ rfl rfl) rfl rfl rfl ?_
 refine AOps.nil ?_
 refine AWP.seq ?_
 refine AWP.region ?_
 refine AOps.step (Val.of hσ rfl rfl) rfl rfl rfl ?_
 refine AOps.step (Val.of hσ rfl rfl) rfl rfl rfl ?_
 refine AOps.step (Val.of hσ rfl rfl) rfl rfl rfl ?_
 refine AOps.step (Val.of hσ rfl rfl) rfl rfl rfl ?_
 refine AOps.reset [(6, _), (2, _), (0, _)] [] ⟨rfl, rfl, rfl, trivial⟩ rfl ?_
 refine AOps.lone hσ rfl rfl rfl rfl (c103 h1 h2) (VAs.self rfl) rfl rfl rfl rfl rfl (B0 := 8000) rfl ?_
 refine AOps.step (Val.of hσ rfl rfl) rfl rfl rfl ?_
 refine AOps.reset [(8, _), (2, _), (0, _)] [] ⟨rfl, rfl, rfl, trivial⟩ rfl ?_
 refine AOps.gr 5 rfl rfl rfl (fun hx => AN.step hx rfl rfl rfl (Val.of hσ rfl rfl) rfl rfl ( AN.step hx rfl rfl rfl (Val.of hσ rfl rfl) rfl rfl ( AN.step hx rfl rfl rfl (Val.of hσ rfl rfl) rfl rfl ( AN.step hx rfl rfl rfl (Val.of hσ rfl rfl) rfl rfl ( AN.lone hσ hx rfl rfl rfl rfl (c103 h1 h2) (VAs.self rfl) rfl rfl rfl rfl rfl rfl rfl (B0 := 14000) rfl ( AN.nil)))))) rfl rfl ?_
 first | refine AOps.step (Val.pickT hσ rfl rfl rfl rfl rfl) rfl rfl rfl ?_ | refine AOps.step (Val.pickF hσ rfl rfl rfl rfl rfl) rfl rfl rfl ?_ | refine AOps.step (Val.pickB hσ rfl rfl rfl rfl rfl) rfl rfl rfl ?_
 refine AOps.step (Val.of hσ rfl rfl) rfl rfl rfl ?_
 refine AOps.forget [(2, _)] ⟨rfl, trivial⟩ ?_
 refine AOps.nil ?_
 refine AWP.ret ?_
 refine ⟨.inl rfl, _, Ent.refl, _, rfl, ?_⟩
 rw [Bool.cond_false_right]; rfl
theorem c57 {L : Nat} (h1 : 4096 ≤ L) (h2 : L ≤ 1073741824) {n : Int} : MC Try.prog L 57 [eI n] [] (Plain (eB (decide (0 ≤ n) && decide (n ≤ 2000)))) := by
 refine MC.alone ?_ rfl
 have hσ := SGok (nt := 5) h1 (Nat.le_trans h2 (by decide))
 refine MC.body hσ Try.func57 (by kernel_rfl) rfl rfl (Nat.le_of_ble_eq_true rfl) (fun hF => ?_)
 refine AWP.seq ?_
 refine AWP.region ?_
 refine AOps.step (Val.of hσ rfl rfl) rfl rfl rfl ?_
 refine AOps.nil ?_
 refine AWP.seq ?_
 refine AWP.region ?_
 refine AOps.step (Val.of hσ rfl rfl) rfl rfl rfl ?_
 refine AOps.lone hσ rfl rfl rfl rfl (c84 h1 h2) (VAs.self rfl) rfl rfl rfl rfl rfl (B0 := 5000) rfl ?_
 refine AOps.step (Val.of hσ rfl rfl) rfl rfl rfl ?_
 refine AOps.nil ?_
 refine AWP.ret ?_
 refine ⟨.inl rfl, _, Ent.refl, _, rfl, ?_⟩
 first | rfl | skip
theorem c153 {L : Nat} (h1 : 4096 ≤ L) (h2 : L ≤ 1073741824) {n : Int} : MC Try.prog L 153 [eI n] [] (Plain (eB (decide (0 ≤ n) && decide (n ≤ 7)))) := by
 refine MC.alone ?_ rfl
 have hσ := SGok (nt := 5) h1 (Nat.le_trans h2 (by decide))
 refine MC.body hσ Try.func153 (by kernel_rfl) rfl rfl (Nat.le_of_ble_eq_true rfl) (fun hF => ?_)
 refine AWP.seq ?_
 refine AWP.region ?_
 refine AOps.step (Val.of hσ rfl rfl) rfl rfl rfl ?_
 refine AOps.nil ?_
 refine AWP.seq ?_
 refine AWP.region ?_
 refine AOps.step (Val.of hσ rfl rfl) rfl rfl rfl ?_
 refine AOps.lone hσ rfl rfl rfl rfl (c84 h1 h2) (VAs.self rfl) rfl rfl rfl rfl rfl (B0 := 5000) rfl ?_
 refine AOps.step (Val.of hσ rfl rfl) rfl rfl rfl ?_
 refine AOps.nil ?_
 refine AWP.ret ?_
 refine ⟨.inl rfl, _, Ent.refl, _, rfl, ?_⟩
 first | rfl | skip
theorem c154 {L : Nat} (h1 : 4096 ≤ L) (h2 : L ≤ 1073741824) {n : Int} : MC Try.prog L 154 [eI n] [] (Plain (eB (big n))) := by
 refine MC.alone ?_ rfl
 have hσ := SGok (nt := 5) h1 (Nat.le_trans h2 (by decide))
 refine MC.body hσ Try.func154 (by kernel_rfl) rfl rfl (Nat.le_of_ble_eq_true rfl) (fun hF => ?_)
 refine AWP.seq ?_
 refine AWP.region ?_
 refine AOps.step (Val.of hσ rfl rfl) rfl rfl rfl ?_
 refine AOps.nil ?_
 refine AWP.seq ?_
 refine AWP.region ?_
 refine AOps.step (Val.of hσ rfl rfl) rfl rfl rfl ?_
 refine AOps.lone hσ rfl rfl rfl rfl (c84 h1 h2) (VAs.self rfl) rfl rfl rfl rfl rfl (B0 := 5000) rfl ?_
 refine AOps.step (Val.of hσ rfl rfl) rfl rfl rfl ?_
 refine AOps.nil ?_
 refine AWP.ret ?_
 refine ⟨.inl rfl, _, Ent.refl, _, rfl, ?_⟩
 first | rfl | skip
theorem c107 {L : Nat} (h1 : 4096 ≤ L) (h2 : L ≤ 1073741824) {t : Tm} {vars cells : List Int} (h : t.term = true) (hv : numsB vars 4 = true) : MC Try.prog L 107 [ptr t.cells, ptr [ints vars, ints cells]] [] (Plain (eI (evalT t vars))) := by
 refine MC.alone ?_ rfl
 have hσ := SGok (nt := 38) h1 (Nat.le_trans h2 (by decide))
 refine MC.body hσ Try.func107 (by kernel_rfl) rfl rfl (Nat.le_of_ble_eq_true rfl) (fun hF => ?_)
 have ht := term_iff h
 have hs := numsB_iff hv
 have hlen : t.xs.length ≤ vars.length := by omega
 refine AWP.seq ?_
 refine AWP.region ?_
 refine AOps.step (Val.of hσ rfl rfl) rfl rfl rfl ?_
 refine AOps.nil ?_
 refine AWP.seq ?_
 refine AWP.region ?_
 refine AOps.step (Val.of hσ rfl rfl) rfl rfl rfl ?_
 refine AOps.step (Val.of hσ rfl rfl) rfl rfl rfl ?_
 refine AOps.step (Val.of hσ rfl rfl) rfl rfl rfl ?_
 refine AOps.step (Val.of hσ rfl rfl) rfl rfl rfl ?_
 refine AOps.step (Val.of hσ rfl rfl) rfl rfl rfl ?_
 refine AOps.forget [(5, _), (4, _), (0, _), (1, _)] ⟨rfl, rfl, rfl, rfl, trivial⟩ ?_
 refine AOps.nil ?_
 refine AWP.seq ?_
 refine AWP.seq ?_
 refine AWP.region ?_
 refine AOps.step (Val.of hσ rfl rfl) rfl rfl rfl ?_
 refine AOps.nil ?_
 refine AWP.block ?_
 refine AWP.loopP (X := Nat) (fun i => ⟨[(0, ptr t.cells), (1, ptr [ints vars, ints cells]), (5, eI (t.c + dot (t.xs.take i) (vars.take i))), (6, eI i)], []⟩) (fun i => i ≤ t.xs.length) (fun i => t.xs.length - i) 0 (Ent.env ⟨rfl, rfl, by simp [dot, numbered, lk_cons], rfl, trivial⟩) ?_ (fun i hi => ?_)
 ·
  exact Nat.zero_le _
 refine AWP.seq ?_
 refine AWP.seq ?_
 refine AWP.region ?_
 refine AOps.step (Val.of hσ rfl rfl) rfl rfl rfl ?_
 refine AOps.step (Val.of hσ rfl rfl) rfl rfl rfl ?_
 refine AOps.step (Val.of hσ rfl rfl) rfl rfl rfl ?_
 refine AOps.step (Val.of hσ rfl rfl) rfl rfl rfl ?_
 refine AOps.step (Val.of hσ rfl rfl) rfl rfl rfl ?_
 first | refine AOps.step (Val.lenD hσ rfl rfl rfl rfl rfl rfl rfl rfl) rfl rfl rfl ?_ | refine AOps.step (Val.of hσ rfl rfl) rfl rfl rfl ?_ | refine AOps.step (Val.vif hσ rfl rfl (by first | omega | (simp at *; omega))) rfl rfl rfl ?_
 refine AOps.step (Val.of hσ rfl rfl) rfl rfl rfl ?_
 refine AOps.forget [(17, _), (0, _), (1, _), (5, _), (6, _)] ⟨rfl, rfl, rfl, rfl, rfl, trivial⟩ ?_
 refine AOps.nil ?_
 refine AWP.cond hσ rfl rfl (fun hc17 => ?_) (fun hc17 => ?_)
 ·
  try simp only [List.length_map, beq_iff_eq, decide_eq_true_eq, decide_eq_false_iff_not, Bool.not_eq_true', Bool.not_eq_false', Bool.not_true, Bool.not_false, Int.not_lt, Int.not_le] at hc17
  refine AWP.skip ?_
  refine AWP.seq ?_
  refine AWP.block ?_
  have hd := dot_in ht.2.1 hs.1 hi (Nat.le_trans hi hlen)
  have hds := dot_succ (xs := t.xs) (ys := vars) (i := i) (by omega) (by omega)
  have hn := num_iff.1 ht.1
  have hm := mul_in (num_iff.1 (List.all_eq_true.1 ht.2.1 _ (List.getElem_mem (show i < t.xs.length by omega)))) (big_iff.1 (List.all_eq_true.1 hs.1 _ (List.getElem_mem (show i < vars.length by omega))))
  rw [← getD_lt (show i < t.xs.length by omega), ← getD_lt (show i < vars.length by omega)] at hm
  refine AWP.drawR hσ _ [_, _, _, _, _, _, _, _, _, _, _, _, _, _, _, _, _, _] [⟨[], 0, 0, none⟩, ⟨[], 0, 0, none⟩, ⟨[1], 0, 0, none⟩, ⟨[1, 2], 0, 0, none⟩, ⟨[1, 2, 3], 0, 0, none⟩, ⟨[], 0, 0, none⟩, ⟨[1, 2, 3, 4, 5], 0, 0, none⟩, ⟨[1, 2, 3, 4, 5, 6], 0, 0, none⟩, ⟨[], 0, 0, none⟩, ⟨[8], 0, 0, none⟩, ⟨[8, 9], 0, 0, none⟩, ⟨[8, 9, 10], 0, 0, none⟩, ⟨[], 0, 0, none⟩, ⟨[8, 9, 10, 11, 12], 0, 0, none⟩, ⟨[8, 9, 10, 11, 12, 13], 0, 0, none⟩, ⟨[1, 2, 3, 4, 5, 6, 7, 8, 9, 10, 11, 12, 13, 14], 0, 0, none⟩, ⟨[0, 1, 2, 3, 4, 5, 6, 7, 8, 9, 10, 11, 12, 13, 14, 15], 0, 0, none⟩, ⟨[0, 1, 2, 3, 4, 5, 6, 7, 8, 9, 10, 11, 12, 13, 14, 15, 16], 0, 0, none⟩] [] [_] rfl rfl (by decide) (by decide) (by kernel_rfl) (And.intro (Val.of hσ rfl rfl) (And.intro (Val.of hσ rfl rfl) (And.intro (Val.of hσ rfl rfl) (And.intro (Val.of hσ rfl rfl) (And.intro (Val.of hσ rfl rfl) (And.intro (Val.of hσ rfl rfl) (And.intro (Val.indexD hσ rfl rfl rfl rfl rfl rfl rfl rfl (by first | omega | (simp at *; omega)) (idx_get (by first | omega | (simp at *; omega)) (by first | omega | (simp at *; omega)))) (And.intro (Val.of hσ rfl rfl) (And.intro (Val.of hσ rfl rfl) (And.intro (Val.of hσ rfl rfl) (And.intro (Val.of hσ rfl rfl) (And.intro (Val.of hσ rfl rfl) (And.intro (Val.of hσ rfl rfl) (And.intro (Val.indexD hσ rfl rfl rfl rfl rfl rfl rfl rfl (by first | omega | (simp at *; omega)) (idx_get (by first | omega | (simp at *; omega)) (by first | omega | (simp at *; omega)))) (And.intro (Val.of hσ rfl rfl) (And.intro (Val.fits64 hσ rfl rfl (Int.le_trans (by decide) hm.1) (Int.le_trans hm.2 (by decide))) (And.intro (Val.fits64 hσ rfl rfl (show (-9223372036854775808 : Int) ≤ t.c + dot (t.xs.take i) (vars.take i) + t.xs.getD i default * vars.getD i default by omega) (show t.c + dot (t.xs.take i) (vars.take i) + t.xs.getD i default * vars.getD i default ≤ 9223372036854775807 by omega)) (And.intro (Val.of hσ rfl rfl) trivial)))))))))))))))))) ?_
  refine AWP.ent (Ent.to (e' := [(5, _), (17, _), (0, _), (1, _), (6, _)]) (H' := []) ⟨rfl, rfl, rfl, rfl, rfl, trivial⟩ rfl) ?_
  refine AWP.region ?_
  refine AOps.step (Val.of hσ rfl rfl) rfl rfl rfl ?_
  first | refine AOps.step (Val.fits64 hσ rfl rfl (by first | omega | (simp at *; omega)) (by first | omega | (simp at *; omega))) rfl rfl rfl ?_ | refine AOps.step (Val.vif hσ rfl rfl (by first | omega | (simp at *; omega))) rfl rfl rfl ?_
  refine AOps.step (Val.of hσ rfl rfl) rfl rfl rfl ?_
  refine AOps.forget [(6, _), (5, _), (17, _), (0, _), (1, _)] ⟨rfl, rfl, rfl, rfl, rfl, trivial⟩ ?_
  refine AOps.nil ?_
  refine ⟨i + 1, Ent.to ⟨rfl, rfl, ?_, rfl, trivial⟩ rfl, by omega, by omega⟩
  exact congrArg (fun z => some (eI z)) (by rw [hds]; show t.c + dot (t.xs.take i) (vars.take i) + t.xs.getD i default * vars.getD i default = _; omega)
 ·
  try simp only [List.length_map, beq_iff_eq, decide_eq_true_eq, decide_eq_false_iff_not, Bool.not_eq_true', Bool.not_eq_false', Bool.not_true, Bool.not_false, Int.not_lt, Int.not_le] at hc17
  refine AWP.exit ?_
  refine AWP.seq ?_
  refine AWP.region ?_
  refine AOps.step (Val.of hσ rfl rfl) rfl rfl rfl ?_
  refine AOps.step (Val.of hσ rfl rfl) rfl rfl rfl ?_
  refine AOps.nil ?_
  refine AWP.ret ?_
  refine ⟨.inl rfl, _, Ent.refl, _, rfl, ?_⟩
  obtain rfl : i = t.xs.length := by omega
  rw [dot_all (Nat.le_refl _)]; rfl
theorem c160 {L : Nat} (h1 : 4096 ≤ L) (h2 : L ≤ 1073741824) {t : Tm} {vars : List Int} (h : t.term = true) (hv : numsB vars 4 = true) : MC Try.prog L 160 [.agg (t.cells.map .d), aints vars] [] (Plain (eI (evalT t vars))) := by
 refine MC.alone ?_ rfl
 have hσ := SGok (nt := 28) h1 (Nat.le_trans h2 (by decide))
 refine MC.body hσ Try.func160 (by kernel_rfl) rfl rfl (Nat.le_of_ble_eq_true rfl) (fun hF => ?_)
 have ht := term_iff h
 have hs := numsB_iff hv
 have hlen : t.xs.length ≤ vars.length := by omega
 refine AWP.seq ?_
 refine AWP.region ?_
 refine AOps.heap (HS.box hσ rfl rfl rfl rfl rfl rfl rfl) rfl ?_
 refine AOps.step (Val.of hσ rfl rfl) rfl rfl rfl ?_
 refine AOps.nil ?_
 refine AWP.seq ?_
 refine AWP.region ?_
 refine AOps.step (Val.of hσ rfl rfl) rfl rfl rfl ?_
 refine AOps.step (Val.of hσ rfl rfl) rfl rfl rfl ?_
 refine AOps.step (Val.of hσ rfl rfl) rfl rfl rfl ?_
 refine AOps.nil ?_
 refine AWP.seq ?_
 refine AWP.seq ?_
 refine AWP.region ?_
 refine AOps.step (Val.of hσ rfl rfl) rfl rfl rfl ?_
 refine AOps.step (Val.of hσ rfl rfl) rfl rfl rfl ?_
 first | refine AOps.step (Val.lenD hσ rfl rfl rfl rfl rfl rfl rfl rfl) rfl rfl rfl ?_ | refine AOps.step (Val.of hσ rfl rfl) rfl rfl rfl ?_ | refine AOps.step (Val.vif hσ rfl rfl (by first | omega | (simp at *; omega))) rfl rfl rfl ?_
 refine AOps.step (Val.of hσ rfl rfl) rfl rfl rfl ?_
 refine AOps.nil ?_
 refine AWP.block ?_
 refine AWP.loopP (X := Nat) (fun i => ⟨[(1, aints vars), (5, eI (t.c + dot (t.xs.take i) (vars.take i))), (11, .c (.d (ints t.xs))), (12, eI t.xs.length), (13, eI i)], []⟩) (fun i => i ≤ t.xs.length) (fun i => t.xs.length - i) 0 (Ent.sel [] rfl rfl ⟨rfl, by simp [dot, numbered, lk_cons], rfl, by simp [lk_cons], rfl, trivial⟩ rfl) ?_ (fun i hi => ?_)
 ·
  exact Nat.zero_le _
 refine AWP.seq ?_
 refine AWP.region ?_
 refine AOps.step (Val.of hσ rfl rfl) rfl rfl rfl ?_
 refine AOps.nil ?_
 refine AWP.seq ?_
 refine AWP.cond hσ rfl rfl (fun hc14 => ?_) (fun hc14 => ?_)
 ·
  try simp only [List.length_map, beq_iff_eq, decide_eq_true_eq, decide_eq_false_iff_not, Bool.not_eq_true', Bool.not_eq_false', Bool.not_true, Bool.not_false, Int.not_lt, Int.not_le] at hc14
  refine AWP.skip ?_
  refine AWP.seq ?_
  refine AWP.block ?_
  refine AWP.seq ?_
  refine AWP.region ?_
  refine AOps.step (Val.of hσ rfl rfl) rfl rfl rfl ?_
  first | refine AOps.step (Val.indexD hσ rfl rfl rfl rfl rfl rfl rfl rfl (by first | omega | (simp at *; omega)) (idx_get (by first | omega | (simp at *; omega)) (by first | omega | (simp at *; omega)))) rfl rfl rfl ?_ | refine AOps.step (Val.vif hσ rfl rfl (by first | omega | (simp at *; omega))) rfl rfl rfl ?_
  refine AOps.step (Val.of hσ rfl rfl) rfl rfl rfl ?_
  refine AOps.step (Val.of hσ rfl rfl) rfl rfl rfl ?_
  refine AOps.step (Val.of hσ rfl rfl) rfl rfl rfl ?_
  refine AOps.nil ?_
  refine AWP.region ?_
  refine AOps.step (Val.of hσ rfl rfl) rfl rfl rfl ?_
  refine AOps.step (Val.of hσ rfl rfl) rfl rfl rfl ?_
  refine AOps.step (Val.of hσ rfl rfl) rfl rfl rfl ?_
  refine AOps.step (Val.of hσ rfl rfl) rfl rfl rfl ?_
  first | refine AOps.step (Val.indexD hσ rfl rfl rfl rfl rfl rfl rfl rfl (by first | omega | (simp at *; omega)) (idx_get (by first | omega | (simp at *; omega)) (by first | omega | (simp at *; omega)))) rfl rfl rfl ?_ | refine AOps.step (Val.vif hσ rfl rfl (by first | omega | (simp at *; omega))) rfl rfl rfl ?_
  refine AOps.step (Val.of hσ rfl rfl) rfl rfl rfl ?_
  have hd := dot_in ht.2.1 hs.1 hi (Nat.le_trans hi hlen)
  have hds := dot_succ (xs := t.xs) (ys := vars) (i := i) (by omega) (by omega)
  have hn := num_iff.1 ht.1
  have hm := mul_in (num_iff.1 (List.all_eq_true.1 ht.2.1 _ (List.getElem_mem (show i < t.xs.length by omega)))) (big_iff.1 (List.all_eq_true.1 hs.1 _ (List.getElem_mem (show i < vars.length by omega))))
  rw [← getD_lt (show i < t.xs.length by omega), ← getD_lt (show i < vars.length by omega)] at hm
  refine AOps.step (Val.fits64 hσ rfl rfl (Int.le_trans (by decide) hm.1) (Int.le_trans hm.2 (by decide))) rfl rfl rfl ?_
  refine AOps.step (Val.fits64 hσ rfl rfl (show (-9223372036854775808 : Int) ≤ t.c + dot (t.xs.take i) (vars.take i) + t.xs.getD i default * vars.getD i default by omega) (show t.c + dot (t.xs.take i) (vars.take i) + t.xs.getD i default * vars.getD i default ≤ 9223372036854775807 by omega)) rfl rfl rfl ?_
  refine AOps.step (Val.of hσ rfl rfl) rfl rfl rfl ?_
  refine AOps.nil ?_
  refine AWP.region ?_
  first | refine AOps.step (Val.fits64 hσ rfl rfl (by first | omega | (simp at *; omega)) (by first | omega | (simp at *; omega))) rfl rfl rfl ?_ | refine AOps.step (Val.vif hσ rfl rfl (by first | omega | (simp at *; omega))) rfl rfl rfl ?_
  refine AOps.step (Val.of hσ rfl rfl) rfl rfl rfl ?_
  refine AOps.nil ?_
  refine ⟨i + 1, Ent.to ⟨rfl, ?_, rfl, rfl, rfl, trivial⟩ rfl, by omega, by omega⟩
  exact congrArg (fun z => some (eI z)) (by rw [hds]; show t.c + dot (t.xs.take i) (vars.take i) + t.xs.getD i default * vars.getD i default = _; omega)
 ·
  try simp only [List.length_map, beq_iff_eq, decide_eq_true_eq, decide_eq_false_iff_not, Bool.not_eq_true', Bool.not_eq_false', Bool.not_true, Bool.not_false, Int.not_lt, Int.not_le] at hc14
  refine AWP.exit ?_
  refine AWP.seq ?_
  refine AWP.region ?_
  refine AOps.step (Val.of hσ rfl rfl) rfl rfl rfl ?_
  refine AOps.step (Val.of hσ rfl rfl) rfl rfl rfl ?_
  refine AOps.nil ?_
  refine AWP.ret ?_
  refine ⟨.inl rfl, _, Ent.refl, _, rfl, ?_⟩
  obtain rfl : i = t.xs.length := by omega
  rw [dot_all (Nat.le_refl _)]; rfl
end Go.Al
namespace Go.Al
open Go.Proofs
set_option linter.unusedVariables false
set_option linter.unusedSimpArgs false
set_option maxRecDepth 10000
abbrev aTm' (t : Tm) : A := .agg (t.cells.map .d)
def inB (lo hi x : Int) : Bool := decide (lo ≤ x) && decide (x ≤ hi)

theorem c111 {L : Nat} (h1 : 4096 ≤ L) (h2 : L ≤ 1073741824) {x lo hi : Int} : MC Try.prog L 111 [eI x, eI lo, eI hi] [] (Plain (eB (inB lo hi x))) := by
 refine MC.alone ?_ rfl
 have hσ := SGok (nt := 15) h1 (Nat.le_trans h2 (by decide))
 refine MC.body hσ Try.func111 (by kernel_rfl) rfl rfl (Nat.le_of_ble_eq_true rfl) (fun hF => ?_)
 refine AWP.seq ?_
 refine AWP.region ?_
 refine AOps.step (Val.of hσ rfl rfl) rfl rfl rfl ?_
 refine AOps.nil ?_
 refine AWP.seq ?_
 refine AWP.region ?_
 refine AOps.step (Val.of hσ rfl rfl) rfl rfl rfl ?_
 refine AOps.step (Val.of hσ rfl rfl) rfl rfl rfl ?_
 refine AOps.step (Val.of hσ rfl rfl) rfl rfl rfl ?_
 refine AOps.step (Val.of hσ rfl rfl) rfl rfl rfl ?_
 refine AOps.gr 3 rfl rfl rfl (fun hx => AN.step hx rfl rfl rfl (Val.of hσ rfl rfl) rfl rfl ( AN.step hx rfl rfl rfl (Val.of hσ rfl rfl) rfl rfl ( AN.step hx rfl rfl rfl (Val.of hσ rfl rfl) rfl rfl ( AN.nil)))) rfl rfl ?_
 first | refine AOps.step (Val.pickT hσ rfl rfl rfl rfl rfl) rfl rfl rfl ?_ | refine AOps.step (Val.pickF hσ rfl rfl rfl rfl rfl) rfl rfl rfl ?_ | refine AOps.step (Val.pickB hσ rfl rfl rfl rfl rfl) rfl rfl rfl ?_
 refine AOps.step (Val.of hσ rfl rfl) rfl rfl rfl ?_
 refine AOps.nil ?_
 refine AWP.ret ?_
 refine ⟨.inl rfl, _, Ent.refl, _, rfl, ?_⟩
 rw [Bool.cond_false_right]; rfl
theorem c156 {L : Nat} (h1 : 4096 ≤ L) (h2 : L ≤ 1073741824) {xs : List Int} {lo hi : Int} : MC Try.prog L 156 [aints xs, eI lo, eI hi] [] (Plain (eB (xs.all (inB lo hi)))) := by
 refine MC.alone ?_ rfl
 have hσ := SGok (nt := 21) h1 (Nat.le_trans h2 (by decide))
 refine MC.body hσ Try.func156 (by kernel_rfl) rfl rfl (Nat.le_of_ble_eq_true rfl) (fun hF => ?_)
 have hl : xs.length ≤ L := by simpa [As.fact, A.fact, M.fact, D.fact, Ds.fact] using hF.1.1
 refine AWP.seq ?_
 refine AWP.region ?_
 refine AOps.step (Val.of hσ rfl rfl) rfl rfl rfl ?_
 refine AOps.nil ?_
 refine AWP.seq ?_
 refine AWP.seq ?_
 refine AWP.region ?_
 refine AOps.step (Val.of hσ rfl rfl) rfl rfl rfl ?_
 first | refine AOps.step (Val.lenD hσ rfl rfl rfl rfl rfl rfl rfl rfl) rfl rfl rfl ?_ | refine AOps.step (Val.of hσ rfl rfl) rfl rfl rfl ?_ | refine AOps.step (Val.vif hσ rfl rfl (by first | omega | (simp at *; omega))) rfl rfl rfl ?_
 refine AOps.step (Val.of hσ rfl rfl) rfl rfl rfl ?_
 refine AOps.nil ?_
 refine AWP.block ?_
 refine AWP.loopP (X := Nat) (fun i => ⟨[(1, eI lo), (2, eI hi), (9, aints xs), (10, eI xs.length), (11, eI i)], []⟩) (fun i => i ≤ xs.length ∧ ∀ j (h : j < xs.length), j < i → inB lo hi xs[j] = true) (fun i => xs.length - i) 0 (Ent.env ⟨rfl, rfl, rfl, rfl, rfl, trivial⟩) ?_ (fun i hi => ?_)
 ·
  exact ⟨Nat.zero_le _, fun j h hj => absurd hj (Nat.not_lt_zero j)⟩
 refine AWP.seq ?_
 refine AWP.region ?_
 refine AOps.step (Val.of hσ rfl rfl) rfl rfl rfl ?_
 refine AOps.nil ?_
 refine AWP.seq ?_
 refine AWP.cond hσ rfl rfl (fun hc12 => ?_) (fun hc12 => ?_)
 ·
  try simp only [List.length_map, beq_iff_eq, decide_eq_true_eq, decide_eq_false_iff_not, Bool.not_eq_true', Bool.not_eq_false', Bool.not_true, Bool.not_false, Int.not_lt, Int.not_le] at hc12
  refine AWP.skip ?_
  refine AWP.seq ?_
  refine AWP.block ?_
  refine AWP.seq ?_
  refine AWP.region ?_
  first | refine AOps.step (Val.indexD hσ rfl rfl rfl rfl rfl rfl rfl rfl (by first | omega | (simp at *; omega)) (idx_get (by first | omega | (simp at *; omega)) (by first | omega | (simp at *; omega)))) rfl rfl rfl ?_ | refine AOps.step (Val.vif hσ rfl rfl (by first | omega | (simp at *; omega))) rfl rfl rfl ?_
  refine AOps.step (Val.of hσ rfl rfl) rfl rfl rfl ?_
  refine AOps.step (Val.of hσ rfl rfl) rfl rfl rfl ?_
  refine AOps.nil ?_
  refine AWP.seq ?_
  refine AWP.region ?_
  refine AOps.step (Val.of hσ rfl rfl) rfl rfl rfl ?_
  refine AOps.step (Val.of hσ rfl rfl) rfl rfl rfl ?_
  refine AOps.step (Val.of hσ rfl rfl) rfl rfl rfl ?_
  refine AOps.lone hσ rfl rfl rfl rfl (c111 h1 h2) (VAs.self rfl) rfl rfl rfl rfl rfl (B0 := 19000) rfl ?_
  refine AOps.step (Val.of hσ rfl rfl) rfl rfl rfl ?_
  refine AOps.nil ?_
  refine AWP.cond hσ rfl rfl (fun hc19 => ?_) (fun hc19 => ?_)
  ·
   try simp only [List.length_map, beq_iff_eq, decide_eq_true_eq, decide_eq_false_iff_not, Bool.not_eq_true', Bool.not_eq_false', Bool.not_true, Bool.not_false, Int.not_lt, Int.not_le] at hc19
   refine AWP.seq ?_
   refine AWP.region ?_
   refine AOps.step (Val.of hσ rfl rfl) rfl rfl rfl ?_
   refine AOps.nil ?_
   refine AWP.ret ?_
   refine ⟨.inl rfl, _, Ent.refl, _, rfl, ?_⟩
   rw [Int.toNat_natCast, getD_lt (by omega)] at hc19
   rw [all_not i (by omega) hc19]
  ·
   try simp only [List.length_map, beq_iff_eq, decide_eq_true_eq, decide_eq_false_iff_not, Bool.not_eq_true', Bool.not_eq_false', Bool.not_true, Bool.not_false, Int.not_lt, Int.not_le] at hc19
   refine AWP.skip ?_
   refine AWP.region ?_
   first | refine AOps.step (Val.fits64 hσ rfl rfl (by first | omega | (simp at *; omega)) (by first | omega | (simp at *; omega))) rfl rfl rfl ?_ | refine AOps.step (Val.vif hσ rfl rfl (by first | omega | (simp at *; omega))) rfl rfl rfl ?_
   refine AOps.step (Val.of hσ rfl rfl) rfl rfl rfl ?_
   refine AOps.nil ?_
   refine ⟨i + 1, Ent.env ⟨rfl, rfl, rfl, rfl, rfl, trivial⟩, ⟨by omega, fun j h hj => ?_⟩, by omega⟩
   by_cases e : j = i
   ·
    subst e; rw [Int.toNat_natCast, getD_lt h] at hc19; exact hc19
   ·
    exact hi.2 j h (by omega)
 ·
  try simp only [List.length_map, beq_iff_eq, decide_eq_true_eq, decide_eq_false_iff_not, Bool.not_eq_true', Bool.not_eq_false', Bool.not_true, Bool.not_false, Int.not_lt, Int.not_le] at hc12
  refine AWP.exit ?_
  refine AWP.seq ?_
  refine AWP.region ?_
  refine AOps.step (Val.of hσ rfl rfl) rfl rfl rfl ?_
  refine AOps.nil ?_
  refine AWP.ret ?_
  refine ⟨.inl rfl, _, Ent.refl, _, rfl, ?_⟩
  rw [all_of (fun j hj => hi.2 j hj (by omega))]
theorem c176 {L : Nat} (h1 : 4096 ≤ L) (h2 : L ≤ 1073741824) {x : Int} : MC Try.prog L 176 [eI x] [] (Plain (eB (num x))) := by
 refine MC.alone ?_ rfl
 have hσ := SGok (nt := 5) h1 (Nat.le_trans h2 (by decide))
 refine MC.body hσ Try.func176 (by kernel_rfl) rfl rfl (Nat.le_of_ble_eq_true rfl) (fun hF => ?_)
 refine AWP.seq ?_
 refine AWP.region ?_
 refine AOps.step (Val.of hσ rfl rfl) rfl rfl rfl ?_
 refine AOps.nil ?_
 refine AWP.seq ?_
 refine AWP.region ?_
 refine AOps.step (Val.of hσ rfl rfl) rfl rfl rfl ?_
 refine AOps.lone hσ rfl rfl rfl rfl (c111 h1 h2) (VAs.self rfl) rfl rfl rfl rfl rfl (B0 := 5000) rfl ?_
 refine AOps.step (Val.of hσ rfl rfl) rfl rfl rfl ?_
 refine AOps.nil ?_
 refine AWP.ret ?_
 refine ⟨.inl rfl, _, Ent.refl, _, rfl, ?_⟩
 first | rfl | skip
theorem validEq (t : Tm) : (bif bif bif decide ((t.xs.length : Int) ≤ 10) then num t.c else false then t.xs.all num else false then bif decide ((t.xs.length : Int) = 0) then true else !decide (t.xs.getD ((t.xs.length : Int) - 1).toNat default = 0) else false) = t.ok := by
  unfold Tm.ok
  cases num t.c <;> cases t.xs.all num <;> simp
  by_cases h0 : t.xs = []
  · simp [h0]
  · have h1 : 0 < t.xs.length := List.length_pos_iff.2 h0
    by_cases h2 : (t.xs.length : Int) ≤ 10
    · have h3 : ¬ (10 : Int) < t.xs.length := by omega
      simp [h0, h1, h2, h3]
    · have h3 : (10 : Int) < t.xs.length := by omega
      simp [h2, h3]
theorem c185 {L : Nat} (h1 : 4096 ≤ L) (h2 : L ≤ 1073741824) {t : Tm} : MC Try.prog L 185 [aTm' t] [] (Plain (eB t.ok)) := by
 refine MC.alone ?_ rfl
 have hσ := SGok (nt := 32) h1 (Nat.le_trans h2 (by decide))
 refine MC.body hσ Try.func185 (by kernel_rfl) rfl rfl (Nat.le_of_ble_eq_true rfl) (fun hF => ?_)
 have hl : t.xs.length ≤ L := by simpa [As.fact, A.fact, M.fact, Ms.fact, D.fact, Ds.fact] using hF.1.2.1.1
 refine AWP.seq ?_
 refine AWP.region ?_
 refine AOps.heap (HS.box hσ rfl rfl rfl rfl rfl rfl rfl) rfl ?_
 refine AOps.step (Val.of hσ rfl rfl) rfl rfl rfl ?_
 refine AOps.nil ?_
 refine AWP.seq ?_
 refine AWP.region ?_
 refine AOps.step (Val.of hσ rfl rfl) rfl rfl rfl ?_
 refine AOps.step (Val.of hσ rfl rfl) rfl rfl rfl ?_
 first | refine AOps.step (Val.lenD hσ rfl rfl rfl rfl rfl rfl rfl rfl) rfl rfl rfl ?_ | refine AOps.step (Val.of hσ rfl rfl) rfl rfl rfl ?_ | refine AOps.step (Val.vif hσ rfl rfl (by first | omega | (simp only [List.length_map, beq_iff_eq, decide_eq_true_eq, decide_eq_false_iff_not, Bool.not_eq_true', Bool.not_eq_false', Bool.not_true, Bool.not_false, Int.not_lt, Int.not_le] at *; omega))) rfl rfl rfl ?_
 refine AOps.step (Val.of hσ rfl rfl) rfl rfl rfl ?_
 refine AOps.forget [(3, _), (2, _), (1, _), (0, _)] ⟨rfl, rfl, rfl, rfl, trivial⟩ ?_
 refine AOps.nil ?_
 refine AWP.seq ?_
 refine AWP.region ?_
 refine AOps.step (Val.of hσ rfl rfl) rfl rfl rfl ?_
 refine AOps.step (Val.of hσ rfl rfl) rfl rfl rfl ?_
 refine AOps.step (Val.of hσ rfl rfl) rfl rfl rfl ?_
 refine AOps.forget [(9, _), (3, _), (2, _), (1, _), (0, _)] ⟨rfl, rfl, rfl, rfl, rfl, trivial⟩ ?_
 refine AOps.gr 3 rfl rfl rfl (fun hx => AN.step hx rfl rfl rfl (Val.of hσ rfl rfl) rfl rfl ( AN.step hx rfl rfl rfl (Val.of hσ rfl rfl) rfl rfl ( AN.lone hσ hx rfl rfl rfl rfl (c176 h1 h2) (VAs.self rfl) rfl rfl rfl rfl rfl rfl rfl (B0 := 13000) rfl ( AN.nil)))) rfl rfl ?_
 first | refine AOps.step (Val.pickT hσ rfl rfl rfl rfl rfl) rfl rfl rfl ?_ | refine AOps.step (Val.pickF hσ rfl rfl rfl rfl rfl) rfl rfl rfl ?_ | refine AOps.step (Val.pickB hσ rfl rfl rfl rfl rfl) rfl rfl rfl ?_
 refine AOps.step (Val.of hσ rfl rfl) rfl rfl rfl ?_
 refine AOps.forget [(14, _), (3, _), (2, _), (1, _), (0, _)] ⟨rfl, rfl, rfl, rfl, rfl, trivial⟩ ?_
 refine AOps.gr 3 rfl rfl rfl (fun hx => AN.step hx rfl rfl rfl (Val.of hσ rfl rfl) rfl rfl ( AN.step hx rfl rfl rfl (Val.of hσ rfl rfl) rfl rfl ( AN.lone hσ hx rfl rfl rfl rfl (c156 h1 h2) (VAs.self rfl) rfl rfl rfl rfl rfl rfl rfl (B0 := 18000) rfl ( AN.nil)))) rfl rfl ?_
 first | refine AOps.step (Val.pickT hσ rfl rfl rfl rfl rfl) rfl rfl rfl ?_ | refine AOps.step (Val.pickF hσ rfl rfl rfl rfl rfl) rfl rfl rfl ?_ | refine AOps.step (Val.pickB hσ rfl rfl rfl rfl rfl) rfl rfl rfl ?_
 refine AOps.step (Val.of hσ rfl rfl) rfl rfl rfl ?_
 refine AOps.forget [(19, _), (3, _), (2, _), (1, _), (0, _)] ⟨rfl, rfl, rfl, rfl, rfl, trivial⟩ ?_
 refine AOps.gr 11 rfl rfl rfl (fun hx => AN.step hx rfl rfl rfl (Val.of hσ rfl rfl) rfl rfl ( AN.step hx rfl rfl rfl (Val.of hσ rfl rfl) rfl rfl ( AN.step hx rfl rfl rfl (Val.of hσ rfl rfl) rfl rfl ( AN.grp 7 rfl rfl rfl rfl (fun hx' => AN.step hx' rfl rfl rfl (Val.of hσ rfl rfl) rfl rfl ( AN.step hx' rfl rfl rfl (Val.of hσ rfl rfl) rfl rfl ( AN.step hx' rfl rfl rfl (Val.of hσ rfl rfl) rfl rfl ( AN.step hx' rfl rfl rfl (Val.fits64 hσ rfl rfl (by first | omega | (simp only [List.length_map, beq_iff_eq, decide_eq_true_eq, decide_eq_false_iff_not, Bool.not_eq_true', Bool.not_eq_false', Bool.not_true, Bool.not_false, Int.not_lt, Int.not_le] at *; omega)) (by first | omega | (simp only [List.length_map, beq_iff_eq, decide_eq_true_eq, decide_eq_false_iff_not, Bool.not_eq_true', Bool.not_eq_false', Bool.not_true, Bool.not_false, Int.not_lt, Int.not_le] at *; omega))) rfl rfl ( AN.step hx' rfl rfl rfl (Val.indexD hσ rfl rfl rfl rfl rfl rfl rfl rfl (by first | omega | (simp only [List.length_map, beq_iff_eq, decide_eq_true_eq, decide_eq_false_iff_not, Bool.not_eq_true', Bool.not_eq_false', Bool.not_true, Bool.not_false, Int.not_lt, Int.not_le] at *; omega)) (idx_get (by first | omega | (simp only [List.length_map, beq_iff_eq, decide_eq_true_eq, decide_eq_false_iff_not, Bool.not_eq_true', Bool.not_eq_false', Bool.not_true, Bool.not_false, Int.not_lt, Int.not_le] at *; omega)) (by first | omega | (simp only [List.length_map, beq_iff_eq, decide_eq_true_eq, decide_eq_false_iff_not, Bool.not_eq_true', Bool.not_eq_false', Bool.not_true, Bool.not_false, Int.not_lt, Int.not_le] at *; omega)))) rfl rfl ( AN.step hx' rfl rfl rfl (Val.of hσ rfl rfl) rfl rfl ( AN.step hx' rfl rfl rfl (Val.of hσ rfl rfl) rfl rfl ( AN.nil)))))))) rfl rfl ( AN.step hx rfl rfl rfl (Val.pickF hσ rfl rfl rfl rfl rfl) rfl rfl ( AN.nil)))))) rfl rfl ?_
 first | refine AOps.step (Val.pickT hσ rfl rfl rfl rfl rfl) rfl rfl rfl ?_ | refine AOps.step (Val.pickF hσ rfl rfl rfl rfl rfl) rfl rfl rfl ?_ | refine AOps.step (Val.pickB hσ rfl rfl rfl rfl rfl) rfl rfl rfl ?_
 refine AOps.step (Val.of hσ rfl rfl) rfl rfl rfl ?_
 refine AOps.forget [(2, _), (1, _), (0, _)] ⟨rfl, rfl, rfl, trivial⟩ ?_
 refine AOps.nil ?_
 refine AWP.ret ?_
 refine ⟨.inl rfl, _, Ent.refl, _, rfl, ?_⟩
 exact congrArg eB (validEq t)
theorem c171 {L : Nat} (h1 : 4096 ≤ L) (h2 : L ≤ 1073741824) {t : Tm} : MC Try.prog L 171 [aTm' t] [] (Plain (eB t.term)) := by
 refine MC.alone ?_ rfl
 have hσ := SGok (nt := 11) h1 (Nat.le_trans h2 (by decide))
 refine MC.body hσ Try.func171 (by kernel_rfl) rfl rfl (Nat.le_of_ble_eq_true rfl) (fun hF => ?_)
 refine AWP.seq ?_
 refine AWP.region ?_
 refine AOps.heap (HS.box hσ rfl rfl rfl rfl rfl rfl rfl) rfl ?_
 refine AOps.step (Val.of hσ rfl rfl) rfl rfl rfl ?_
 refine AOps.nil ?_
 refine AWP.seq ?_
 refine AWP.region ?_
 refine AOps.step (Val.of hσ rfl rfl) rfl rfl rfl ?_
 refine AOps.lone hσ rfl rfl rfl rfl (c185 h1 h2) (VAs.self rfl) rfl rfl rfl rfl rfl (B0 := 5000) rfl ?_
 refine AOps.step (Val.of hσ rfl rfl) rfl rfl rfl ?_
 refine AOps.forget [(5, _), (2, _), (1, _), (0, _)] ⟨rfl, rfl, rfl, rfl, trivial⟩ ?_
 refine AOps.gr 4 rfl rfl rfl (fun hx => AN.step hx rfl rfl rfl (Val.of hσ rfl rfl) rfl rfl ( AN.step hx rfl rfl rfl (Val.of hσ rfl rfl) rfl rfl ( AN.step hx rfl rfl rfl (Val.lenD hσ rfl rfl rfl rfl rfl rfl rfl rfl) rfl rfl ( AN.step hx rfl rfl rfl (Val.of hσ rfl rfl) rfl rfl ( AN.nil))))) rfl rfl ?_
 first | refine AOps.step (Val.pickT hσ rfl rfl rfl rfl rfl) rfl rfl rfl ?_ | refine AOps.step (Val.pickF hσ rfl rfl rfl rfl rfl) rfl rfl rfl ?_ | refine AOps.step (Val.pickB hσ rfl rfl rfl rfl rfl) rfl rfl rfl ?_
 refine AOps.step (Val.of hσ rfl rfl) rfl rfl rfl ?_
 refine AOps.forget [(2, _), (0, _)] ⟨rfl, rfl, trivial⟩ ?_
 refine AOps.nil ?_
 refine AWP.ret ?_
 refine ⟨.inl rfl, _, Ent.refl, _, rfl, ?_⟩
 rw [Bool.cond_false_right]; rfl
theorem c206 {L : Nat} (h1 : 4096 ≤ L) (h2 : L ≤ 1073741824) {t : Tm} : MC Try.prog L 206 [aTm' t] [] (Plain (eB t.zero)) := by
 refine MC.alone ?_ rfl
 have hσ := SGok (nt := 12) h1 (Nat.le_trans h2 (by decide))
 refine MC.body hσ Try.func206 (by kernel_rfl) rfl rfl (Nat.le_of_ble_eq_true rfl) (fun hF => ?_)
 refine AWP.seq ?_
 refine AWP.region ?_
 refine AOps.heap (HS.box hσ rfl rfl rfl rfl rfl rfl rfl) rfl ?_
 refine AOps.step (Val.of hσ rfl rfl) rfl rfl rfl ?_
 refine AOps.nil ?_
 refine AWP.seq ?_
 refine AWP.region ?_
 refine AOps.step (Val.of hσ rfl rfl) rfl rfl rfl ?_
 refine AOps.step (Val.of hσ rfl rfl) rfl rfl rfl ?_
 refine AOps.step (Val.of hσ rfl rfl) rfl rfl rfl ?_
 refine AOps.step (Val.of hσ rfl rfl) rfl rfl rfl ?_
 refine AOps.forget [(6, _), (2, _), (1, _), (0, _)] ⟨rfl, rfl, rfl, rfl, trivial⟩ ?_
 refine AOps.gr 4 rfl rfl rfl (fun hx => AN.step hx rfl rfl rfl (Val.of hσ rfl rfl) rfl rfl ( AN.step hx rfl rfl rfl (Val.of hσ rfl rfl) rfl rfl ( AN.step hx rfl rfl rfl (Val.lenD hσ rfl rfl rfl rfl rfl rfl rfl rfl) rfl rfl ( AN.step hx rfl rfl rfl (Val.of hσ rfl rfl) rfl rfl ( AN.nil))))) rfl rfl ?_
 first | refine AOps.step (Val.pickT hσ rfl rfl rfl rfl rfl) rfl rfl rfl ?_ | refine AOps.step (Val.pickF hσ rfl rfl rfl rfl rfl) rfl rfl rfl ?_ | refine AOps.step (Val.pickB hσ rfl rfl rfl rfl rfl) rfl rfl rfl ?_
 refine AOps.step (Val.of hσ rfl rfl) rfl rfl rfl ?_
 refine AOps.forget [(2, _), (0, _)] ⟨rfl, rfl, trivial⟩ ?_
 refine AOps.nil ?_
 refine AWP.ret ?_
 refine ⟨.inl rfl, _, Ent.refl, _, rfl, ?_⟩
 rw [Bool.cond_false_right]; rfl
theorem c170 {L : Nat} (h1 : 4096 ≤ L) (h2 : L ≤ 1073741824) {t : Tm} : MC Try.prog L 170 [aTm' t] [] (Plain (eB !t.term)) := by
 refine MC.alone ?_ rfl
 have hσ := SGok (nt := 6) h1 (Nat.le_trans h2 (by decide))
 refine MC.body hσ Try.func170 (by kernel_rfl) rfl rfl (Nat.le_of_ble_eq_true rfl) (fun hF => ?_)
 refine AWP.seq ?_
 refine AWP.region ?_
 refine AOps.heap (HS.box hσ rfl rfl rfl rfl rfl rfl rfl) rfl ?_
 refine AOps.step (Val.of hσ rfl rfl) rfl rfl rfl ?_
 refine AOps.nil ?_
 refine AWP.seq ?_
 refine AWP.region ?_
 refine AOps.step (Val.of hσ rfl rfl) rfl rfl rfl ?_
 refine AOps.forget [(3, _), (2, _), (0, _)] ⟨rfl, rfl, rfl, trivial⟩ ?_
 refine AOps.lone hσ rfl rfl rfl rfl (c171 h1 h2) (VAs.self rfl) rfl rfl rfl rfl rfl (B0 := 5000) rfl ?_
 refine AOps.step (Val.of hσ rfl rfl) rfl rfl rfl ?_
 refine AOps.step (Val.of hσ rfl rfl) rfl rfl rfl ?_
 refine AOps.forget [(2, _), (0, _)] ⟨rfl, rfl, trivial⟩ ?_
 refine AOps.nil ?_
 refine AWP.ret ?_
 refine ⟨.inl rfl, _, Ent.refl, _, rfl, ?_⟩
 first | rfl | skip
def fIdx (ts : List Tm) : Int := if ts.all Tm.term = true then -1 else (ts.findIdx fun t => !t.term : Nat)
theorem fIdx_all {ts : List Tm} (h : ∀ j (hj : j < ts.length), Tm.term ts[j] = true) : fIdx ts = -1 := by rw [fIdx, if_pos (all_of h)]
theorem fIdx_at {ts : List Tm} {i : Nat} (hi : i < ts.length) (h : ∀ j (hj : j < ts.length), j < i → Tm.term ts[j] = true) (hn : Tm.term ts[i] = false) : fIdx ts = i := by
  rw [fIdx, if_neg (by rw [all_not i hi hn]; decide)]
  exact congrArg Nat.cast ((List.findIdx_eq hi).2 ⟨by simp [hn], fun j hj => by simp [h j (by omega) hj]⟩)
theorem fIdx_neg {ts : List Tm} : decide (fIdx ts ≥ 0) = !ts.all Tm.term := by
  unfold fIdx
  cases h : ts.all Tm.term <;> simp
theorem c196 {L : Nat} (h1 : 4096 ≤ L) (h2 : L ≤ 1073741824) {ts : List Tm} : MC Try.prog L 196 [atms ts, .c (.fn 170 [])] [] (Plain (eI (fIdx ts))) := by
 refine MC.alone ?_ rfl
 have hσ := SGok (nt := 19) h1 (Nat.le_trans h2 (by decide))
 refine MC.body hσ Try.func196 (by kernel_rfl) rfl rfl (Nat.le_of_ble_eq_true rfl) (fun hF => ?_)
 have hl : ts.length ≤ L := by simpa [As.fact, A.fact, M.fact, D.fact, Ds.fact] using hF.1.1
 refine AWP.seq ?_
 refine AWP.region ?_
 refine AOps.step (Val.of hσ rfl rfl) rfl rfl rfl ?_
 refine AOps.nil ?_
 refine AWP.seq ?_
 refine AWP.seq ?_
 refine AWP.region ?_
 refine AOps.step (Val.of hσ rfl rfl) rfl rfl rfl ?_
 first | refine AOps.step (Val.lenD hσ rfl rfl rfl rfl rfl rfl rfl rfl) rfl rfl rfl ?_ | refine AOps.step (Val.of hσ rfl rfl) rfl rfl rfl ?_ | refine AOps.step (Val.vif hσ rfl rfl (by first | omega | (simp at *; omega))) rfl rfl rfl ?_
 refine AOps.step (Val.of hσ rfl rfl) rfl rfl rfl ?_
 refine AOps.nil ?_
 refine AWP.block ?_
 refine AWP.loopP (X := Nat) (fun i => ⟨[(0, atms ts), (1, .c (.fn 170 [])), (7, eI ts.length), (8, eI i)], []⟩) (fun i => i ≤ ts.length ∧ ∀ j (h : j < ts.length), j < i → Tm.term ts[j] = true) (fun i => ts.length - i) 0 (Ent.env ⟨rfl, rfl, rfl, rfl, trivial⟩) ?_ (fun i hi => ?_)
 ·
  exact ⟨Nat.zero_le _, fun j h hj => absurd hj (Nat.not_lt_zero j)⟩
 refine AWP.seq ?_
 refine AWP.region ?_
 refine AOps.step (Val.of hσ rfl rfl) rfl rfl rfl ?_
 refine AOps.nil ?_
 refine AWP.seq ?_
 refine AWP.cond hσ rfl rfl (fun hc9 => ?_) (fun hc9 => ?_)
 ·
  try simp only [List.length_map, beq_iff_eq, decide_eq_true_eq, decide_eq_false_iff_not, Bool.not_eq_true', Bool.not_eq_false', Bool.not_true, Bool.not_false, Int.not_lt, Int.not_le] at hc9
  refine AWP.skip ?_
  refine AWP.seq ?_
  refine AWP.block ?_
  refine AWP.seq ?_
  refine AWP.region ?_
  refine AOps.step (Val.of hσ rfl rfl) rfl rfl rfl ?_
  refine AOps.step (Val.of hσ rfl rfl) rfl rfl rfl ?_
  refine AOps.nil ?_
  refine AWP.seq ?_
  refine AWP.region ?_
  refine AOps.step (Val.of hσ rfl rfl) rfl rfl rfl ?_
  refine AOps.step (Val.of hσ rfl rfl) rfl rfl rfl ?_
  refine AOps.step (Val.of hσ rfl rfl) rfl rfl rfl ?_
  first | refine AOps.step (Val.indexD hσ rfl rfl rfl rfl rfl rfl rfl rfl (by first | omega | (simp at *; omega)) (idx_get (by first | omega | (simp at *; omega)) (by first | omega | (simp at *; omega)))) rfl rfl rfl ?_ | refine AOps.step (Val.vif hσ rfl rfl (by first | omega | (simp at *; omega))) rfl rfl rfl ?_
  refine AOps.step (Val.of hσ rfl rfl) rfl rfl rfl ?_
  refine AOps.lone hσ rfl rfl rfl rfl (c170 h1 h2) (VAs.self rfl) rfl rfl rfl rfl rfl (B0 := 17000) rfl ?_
  refine AOps.nil ?_
  refine AWP.cond hσ rfl rfl (fun hc16 => ?_) (fun hc16 => ?_)
  ·
   try simp only [List.length_map, beq_iff_eq, decide_eq_true_eq, decide_eq_false_iff_not, Bool.not_eq_true', Bool.not_eq_false', Bool.not_true, Bool.not_false, Int.not_lt, Int.not_le] at hc16
   refine AWP.seq ?_
   refine AWP.region ?_
   refine AOps.step (Val.of hσ rfl rfl) rfl rfl rfl ?_
   refine AOps.step (Val.of hσ rfl rfl) rfl rfl rfl ?_
   refine AOps.nil ?_
   refine AWP.ret ?_
   refine ⟨.inl rfl, _, Ent.refl, _, rfl, ?_⟩
   rw [Int.toNat_natCast, getD_lt (by omega)] at hc16
   rw [fIdx_at (by omega) hi.2 hc16]
  ·
   try simp only [List.length_map, beq_iff_eq, decide_eq_true_eq, decide_eq_false_iff_not, Bool.not_eq_true', Bool.not_eq_false', Bool.not_true, Bool.not_false, Int.not_lt, Int.not_le] at hc16
   refine AWP.skip ?_
   refine AWP.region ?_
   first | refine AOps.step (Val.fits64 hσ rfl rfl (by first | omega | (simp at *; omega)) (by first | omega | (simp at *; omega))) rfl rfl rfl ?_ | refine AOps.step (Val.vif hσ rfl rfl (by first | omega | (simp at *; omega))) rfl rfl rfl ?_
   refine AOps.step (Val.of hσ rfl rfl) rfl rfl rfl ?_
   refine AOps.nil ?_
   refine ⟨i + 1, Ent.env ⟨rfl, rfl, rfl, rfl, trivial⟩, ⟨by omega, fun j h hj => ?_⟩, by omega⟩
   by_cases e : j = i
   ·
    subst e; rw [Int.toNat_natCast, getD_lt h] at hc16; exact hc16
   ·
    exact hi.2 j h (by omega)
 ·
  try simp only [List.length_map, beq_iff_eq, decide_eq_true_eq, decide_eq_false_iff_not, Bool.not_eq_true', Bool.not_eq_false', Bool.not_true, Bool.not_false, Int.not_lt, Int.not_le] at hc9
  refine AWP.exit ?_
  refine AWP.seq ?_
  refine AWP.region ?_
  refine AOps.step (Val.of hσ rfl rfl) rfl rfl rfl ?_
  refine AOps.nil ?_
  refine AWP.ret ?_
  refine ⟨.inl rfl, _, Ent.refl, _, rfl, ?_⟩
  rw [fIdx_all (fun j hj => hi.2 j hj (by omega))]
theorem c169 {L : Nat} (h1 : 4096 ≤ L) (h2 : L ≤ 1073741824) {ts : List Tm} : MC Try.prog L 169 [atms ts, .c (.fn 170 [])] [] (Plain (eB !ts.all Tm.term)) := by
 refine MC.alone ?_ rfl
 have hσ := SGok (nt := 9) h1 (Nat.le_trans h2 (by decide))
 refine MC.body hσ Try.func169 (by kernel_rfl) rfl rfl (Nat.le_of_ble_eq_true rfl) (fun hF => ?_)
 refine AWP.seq ?_
 refine AWP.region ?_
 refine AOps.step (Val.of hσ rfl rfl) rfl rfl rfl ?_
 refine AOps.nil ?_
 refine AWP.seq ?_
 refine AWP.region ?_
 refine AOps.step (Val.of hσ rfl rfl) rfl rfl rfl ?_
 refine AOps.step (Val.of hσ rfl rfl) rfl rfl rfl ?_
 refine AOps.lone hσ rfl rfl rfl rfl (c196 h1 h2) (.cons (.c .d) (.cons (.c (.fn .nil)) .nil)) rfl rfl rfl rfl rfl (B0 := 8000) rfl ?_
 refine AOps.step (Val.of hσ rfl rfl) rfl rfl rfl ?_
 refine AOps.step (Val.of hσ rfl rfl) rfl rfl rfl ?_
 refine AOps.nil ?_
 refine AWP.ret ?_
 refine ⟨.inl rfl, _, Ent.refl, _, rfl, ?_⟩
 exact congrArg eB fIdx_neg
theorem c125 {L : Nat} (h1 : 4096 ≤ L) (h2 : L ≤ 1073741824) {ts : List Tm} {n : Int} : MC Try.prog L 125 [atms ts, eI n] [] (Plain (eB (terms ts n))) := by
 refine MC.alone ?_ rfl
 have hσ := SGok (nt := 14) h1 (Nat.le_trans h2 (by decide))
 refine MC.body hσ Try.func125 (by kernel_rfl) rfl rfl (Nat.le_of_ble_eq_true rfl) (fun hF => ?_)
 refine AWP.seq ?_
 refine AWP.region ?_
 refine AOps.step (Val.of hσ rfl rfl) rfl rfl rfl ?_
 refine AOps.nil ?_
 refine AWP.seq ?_
 refine AWP.region ?_
 refine AOps.step (Val.of hσ rfl rfl) rfl rfl rfl ?_
 first | refine AOps.step (Val.lenD hσ rfl rfl rfl rfl rfl rfl rfl rfl) rfl rfl rfl ?_ | refine AOps.step (Val.of hσ rfl rfl) rfl rfl rfl ?_ | refine AOps.step (Val.vif hσ rfl rfl (by first | omega | (simp at *; omega))) rfl rfl rfl ?_
 refine AOps.step (Val.of hσ rfl rfl) rfl rfl rfl ?_
 refine AOps.step (Val.of hσ rfl rfl) rfl rfl rfl ?_
 refine AOps.step (Val.of hσ rfl rfl) rfl rfl rfl ?_
 refine AOps.gr 3 rfl rfl rfl (fun hx => AN.step hx rfl rfl rfl (Val.of hσ rfl rfl) rfl rfl ( AN.lone hσ hx rfl rfl rfl rfl (c169 h1 h2) (.cons (.c .d) (.cons (.c (.fn .nil)) .nil)) rfl rfl rfl rfl rfl rfl rfl (B0 := 12000) rfl ( AN.step hx rfl rfl rfl (Val.of hσ rfl rfl) rfl rfl ( AN.nil)))) rfl rfl ?_
 first | refine AOps.step (Val.pickT hσ rfl rfl rfl rfl rfl) rfl rfl rfl ?_ | refine AOps.step (Val.pickF hσ rfl rfl rfl rfl rfl) rfl rfl rfl ?_ | refine AOps.step (Val.pickB hσ rfl rfl rfl rfl rfl) rfl rfl rfl ?_
 refine AOps.step (Val.of hσ rfl rfl) rfl rfl rfl ?_
 refine AOps.nil ?_
 refine AWP.ret ?_
 refine ⟨.inl rfl, _, Ent.refl, _, rfl, ?_⟩
 rw [Bool.cond_false_right, Bool.not_not, Bool.and_comm]; rfl
theorem c193 {L : Nat} (h1 : 4096 ≤ L) (h2 : L ≤ 1073741824) {x : Int} : MC Try.prog L 193 [eI x] [] (Plain (eB (inB 0 3 x))) := by
 refine MC.alone ?_ rfl
 have hσ := SGok (nt := 5) h1 (Nat.le_trans h2 (by decide))
 refine MC.body hσ Try.func193 (by kernel_rfl) rfl rfl (Nat.le_of_ble_eq_true rfl) (fun hF => ?_)
 refine AWP.seq ?_
 refine AWP.region ?_
 refine AOps.step (Val.of hσ rfl rfl) rfl rfl rfl ?_
 refine AOps.nil ?_
 refine AWP.seq ?_
 refine AWP.region ?_
 refine AOps.step (Val.of hσ rfl rfl) rfl rfl rfl ?_
 refine AOps.lone hσ rfl rfl rfl rfl (c111 h1 h2) (VAs.self rfl) rfl rfl rfl rfl rfl (B0 := 5000) rfl ?_
 refine AOps.step (Val.of hσ rfl rfl) rfl rfl rfl ?_
 refine AOps.nil ?_
 refine AWP.ret ?_
 refine ⟨.inl rfl, _, Ent.refl, _, rfl, ?_⟩
 first | rfl | skip
theorem c195 {L : Nat} (h1 : 4096 ≤ L) (h2 : L ≤ 1073741824) {x : Int} : MC Try.prog L 195 [eI x] [] (Plain (eB (inB 0 3 x))) := by
 refine MC.alone ?_ rfl
 have hσ := SGok (nt := 5) h1 (Nat.le_trans h2 (by decide))
 refine MC.body hσ Try.func195 (by kernel_rfl) rfl rfl (Nat.le_of_ble_eq_true rfl) (fun hF => ?_)
 refine AWP.seq ?_
 refine AWP.region ?_
 refine AOps.step (Val.of hσ rfl rfl) rfl rfl rfl ?_
 refine AOps.nil ?_
 refine AWP.seq ?_
 refine AWP.region ?_
 refine AOps.step (Val.of hσ rfl rfl) rfl rfl rfl ?_
 refine AOps.lone hσ rfl rfl rfl rfl (c111 h1 h2) (VAs.self rfl) rfl rfl rfl rfl rfl (B0 := 5000) rfl ?_
 refine AOps.step (Val.of hσ rfl rfl) rfl rfl rfl ?_
 refine AOps.nil ?_
 refine AWP.ret ?_
 refine ⟨.inl rfl, _, Ent.refl, _, rfl, ?_⟩
 first | rfl | skip
theorem c162 {L : Nat} (h1 : 4096 ≤ L) (h2 : L ≤ 1073741824) {x : Int} : MC Try.prog L 162 [eI x] [] (Plain (eB (big x))) := by
 refine MC.alone ?_ rfl
 have hσ := SGok (nt := 5) h1 (Nat.le_trans h2 (by decide))
 refine MC.body hσ Try.func162 (by kernel_rfl) rfl rfl (Nat.le_of_ble_eq_true rfl) (fun hF => ?_)
 refine AWP.seq ?_
 refine AWP.region ?_
 refine AOps.step (Val.of hσ rfl rfl) rfl rfl rfl ?_
 refine AOps.nil ?_
 refine AWP.seq ?_
 refine AWP.region ?_
 refine AOps.step (Val.of hσ rfl rfl) rfl rfl rfl ?_
 refine AOps.lone hσ rfl rfl rfl rfl (c111 h1 h2) (VAs.self rfl) rfl rfl rfl rfl rfl (B0 := 5000) rfl ?_
 refine AOps.step (Val.of hσ rfl rfl) rfl rfl rfl ?_
 refine AOps.nil ?_
 refine AWP.ret ?_
 refine ⟨.inl rfl, _, Ent.refl, _, rfl, ?_⟩
 first | rfl | skip
end Go.Al
namespace Go.Al
open Go.Proofs
set_option linter.unusedVariables false
set_option linter.unusedSimpArgs false
set_option maxRecDepth 10000
def kidsF (s : Sm) : Int := if stmtB s = true then below s.kind else -1

theorem zero_term {t : Tm} (h : t.zero = true) : t.term = true := by
  simp only [Tm.zero, Bool.and_eq_true, decide_eq_true_eq] at h
  obtain ⟨h1, h2⟩ := h
  have h3 : t.xs = [] := List.eq_nil_of_length_eq_zero (by omega)
  simp [Tm.term, Tm.ok, num, h1, h3]
theorem facts0 {ts : List Tm} (h : decide ((ts.length : Int) = 0) = true) : terms ts 6 = true := by
  have h3 : ts = [] := List.eq_nil_of_length_eq_zero (by have := of_decide_eq_true h; omega)
  subst h3; rfl
theorem factsP {ts : List Tm} : decide ((0 : Int) < ts.length) = !decide ((ts.length : Int) = 0) := by
  by_cases h : (ts.length : Int) = 0
  · simp [h]
  · have : (0 : Int) < ts.length := by omega
    simp only [h, this, decide_true, decide_false, Bool.not_false]
def stB' (n8 st it tf su sz ix iz k8 fp na v3 v0 k5 e3 e0 : Bool) : Bool :=
  bif (bif (bif (bif !n8 then true else !st) then true else !it) then true else !tf) then false
  else bif (bif (bif (bif !su then !sz else false) then true else (bif !ix then !iz else false)) then true else (bif !k8 then fp else false)) then false
  else bif (bif (bif na then !v3 else false) then true else (bif !na then !v0 else false)) then false
  else bif k5 then e3 else e0
theorem kb0 : ∀ st it tf sz iz f0 v3 v0 e3 e0 : Bool, (sz = true → st = true) → (iz = true → it = true) → (f0 = true → tf = true) → stB' true st it tf false sz false iz false (!f0) false v3 v0 false e3 e0 = (bif (bif (bif (bif v0 then e0 else false) then sz else false) then iz else false) then f0 else false) := by decide
theorem stm0 (s : Sm) (hk : decide (s.kind = 0) = true) : stmtB s = (bif (bif (bif (bif decide (s.var = 0) then decide (s.event = 0) else false) then s.sum.zero else false) then s.index.zero else false) then decide ((s.facts.length : Int) = 0) else false) := by
  rw [← kb0 s.sum.term s.index.term (terms s.facts 6) s.sum.zero s.index.zero (decide ((s.facts.length : Int) = 0)) (inB 0 3 s.var) (decide (s.var = 0)) (inB 0 3 s.event) (decide (s.event = 0)) zero_term zero_term facts0, ← factsP]
  cases s with
  | mk kind var event sum index facts =>
    have hk := of_decide_eq_true hk
    simp only at hk
    subst hk
    rfl
theorem kb1 : ∀ st it tf sz iz f0 v3 v0 e3 e0 : Bool, (sz = true → st = true) → (iz = true → it = true) → (f0 = true → tf = true) → stB' true st it tf false sz false iz false (!f0) false v3 v0 false e3 e0 = (bif (bif (bif (bif v0 then e0 else false) then sz else false) then iz else false) then f0 else false) := by decide
theorem stm1 (s : Sm) (hk : decide (s.kind = 1) = true) : stmtB s = (bif (bif (bif (bif decide (s.var = 0) then decide (s.event = 0) else false) then s.sum.zero else false) then s.index.zero else false) then decide ((s.facts.length : Int) = 0) else false) := by
  rw [← kb1 s.sum.term s.index.term (terms s.facts 6) s.sum.zero s.index.zero (decide ((s.facts.length : Int) = 0)) (inB 0 3 s.var) (decide (s.var = 0)) (inB 0 3 s.event) (decide (s.event = 0)) zero_term zero_term facts0, ← factsP]
  cases s with
  | mk kind var event sum index facts =>
    have hk := of_decide_eq_true hk
    simp only at hk
    subst hk
    rfl
theorem kb2 : ∀ st it tf sz iz f0 v3 v0 e3 e0 : Bool, (sz = true → st = true) → (iz = true → it = true) → (f0 = true → tf = true) → stB' true st it tf true sz false iz false (!f0) true v3 v0 false e3 e0 = (bif (bif (bif (bif v3 then e0 else false) then st else false) then iz else false) then f0 else false) := by decide
theorem stm2 (s : Sm) (hk : decide (s.kind = 2) = true) : stmtB s = (bif (bif (bif (bif inB 0 3 s.var then decide (s.event = 0) else false) then s.sum.term else false) then s.index.zero else false) then decide ((s.facts.length : Int) = 0) else false) := by
  rw [← kb2 s.sum.term s.index.term (terms s.facts 6) s.sum.zero s.index.zero (decide ((s.facts.length : Int) = 0)) (inB 0 3 s.var) (decide (s.var = 0)) (inB 0 3 s.event) (decide (s.event = 0)) zero_term zero_term facts0, ← factsP]
  cases s with
  | mk kind var event sum index facts =>
    have hk := of_decide_eq_true hk
    simp only at hk
    subst hk
    rfl
theorem kb3 : ∀ st it tf sz iz f0 v3 v0 e3 e0 : Bool, (sz = true → st = true) → (iz = true → it = true) → (f0 = true → tf = true) → stB' true st it tf false sz true iz false (!f0) true v3 v0 false e3 e0 = (bif (bif (bif (bif v3 then e0 else false) then sz else false) then it else false) then f0 else false) := by decide
theorem stm3 (s : Sm) (hk : decide (s.kind = 3) = true) : stmtB s = (bif (bif (bif (bif inB 0 3 s.var then decide (s.event = 0) else false) then s.sum.zero else false) then s.index.term else false) then decide ((s.facts.length : Int) = 0) else false) := by
  rw [← kb3 s.sum.term s.index.term (terms s.facts 6) s.sum.zero s.index.zero (decide ((s.facts.length : Int) = 0)) (inB 0 3 s.var) (decide (s.var = 0)) (inB 0 3 s.event) (decide (s.event = 0)) zero_term zero_term facts0, ← factsP]
  cases s with
  | mk kind var event sum index facts =>
    have hk := of_decide_eq_true hk
    simp only at hk
    subst hk
    rfl
theorem kb4 : ∀ st it tf sz iz f0 v3 v0 e3 e0 : Bool, (sz = true → st = true) → (iz = true → it = true) → (f0 = true → tf = true) → stB' true st it tf true sz true iz false (!f0) false v3 v0 false e3 e0 = (bif (bif (bif (bif v0 then e0 else false) then st else false) then it else false) then f0 else false) := by decide
theorem stm4 (s : Sm) (hk : decide (s.kind = 4) = true) : stmtB s = (bif (bif (bif (bif decide (s.var = 0) then decide (s.event = 0) else false) then s.sum.term else false) then s.index.term else false) then decide ((s.facts.length : Int) = 0) else false) := by
  rw [← kb4 s.sum.term s.index.term (terms s.facts 6) s.sum.zero s.index.zero (decide ((s.facts.length : Int) = 0)) (inB 0 3 s.var) (decide (s.var = 0)) (inB 0 3 s.event) (decide (s.event = 0)) zero_term zero_term facts0, ← factsP]
  cases s with
  | mk kind var event sum index facts =>
    have hk := of_decide_eq_true hk
    simp only at hk
    subst hk
    rfl
theorem kb5 : ∀ st it tf sz iz f0 v3 v0 e3 e0 : Bool, (sz = true → st = true) → (iz = true → it = true) → (f0 = true → tf = true) → stB' true st it tf false sz false iz false (!f0) false v3 v0 true e3 e0 = (bif (bif (bif (bif v0 then e3 else false) then sz else false) then iz else false) then f0 else false) := by decide
theorem stm5 (s : Sm) (hk : decide (s.kind = 5) = true) : stmtB s = (bif (bif (bif (bif decide (s.var = 0) then inB 0 3 s.event else false) then s.sum.zero else false) then s.index.zero else false) then decide ((s.facts.length : Int) = 0) else false) := by
  rw [← kb5 s.sum.term s.index.term (terms s.facts 6) s.sum.zero s.index.zero (decide ((s.facts.length : Int) = 0)) (inB 0 3 s.var) (decide (s.var = 0)) (inB 0 3 s.event) (decide (s.event = 0)) zero_term zero_term facts0, ← factsP]
  cases s with
  | mk kind var event sum index facts =>
    have hk := of_decide_eq_true hk
    simp only at hk
    subst hk
    rfl
theorem kb6 : ∀ st it tf sz iz f0 v3 v0 e3 e0 : Bool, (sz = true → st = true) → (iz = true → it = true) → (f0 = true → tf = true) → stB' true st it tf true sz false iz false (!f0) false v3 v0 false e3 e0 = (bif (bif (bif (bif v0 then e0 else false) then st else false) then iz else false) then f0 else false) := by decide
theorem stm6 (s : Sm) (hk : decide (s.kind = 6) = true) : stmtB s = (bif (bif (bif (bif decide (s.var = 0) then decide (s.event = 0) else false) then s.sum.term else false) then s.index.zero else false) then decide ((s.facts.length : Int) = 0) else false) := by
  rw [← kb6 s.sum.term s.index.term (terms s.facts 6) s.sum.zero s.index.zero (decide ((s.facts.length : Int) = 0)) (inB 0 3 s.var) (decide (s.var = 0)) (inB 0 3 s.event) (decide (s.event = 0)) zero_term zero_term facts0, ← factsP]
  cases s with
  | mk kind var event sum index facts =>
    have hk := of_decide_eq_true hk
    simp only at hk
    subst hk
    rfl
theorem kb7 : ∀ st it tf sz iz f0 v3 v0 e3 e0 : Bool, (sz = true → st = true) → (iz = true → it = true) → (f0 = true → tf = true) → stB' true st it tf true sz false iz false (!f0) false v3 v0 false e3 e0 = (bif (bif (bif (bif v0 then e0 else false) then st else false) then iz else false) then f0 else false) := by decide
theorem stm7 (s : Sm) (hk : decide (s.kind = 7) = true) : stmtB s = (bif (bif (bif (bif decide (s.var = 0) then decide (s.event = 0) else false) then s.sum.term else false) then s.index.zero else false) then decide ((s.facts.length : Int) = 0) else false) := by
  rw [← kb7 s.sum.term s.index.term (terms s.facts 6) s.sum.zero s.index.zero (decide ((s.facts.length : Int) = 0)) (inB 0 3 s.var) (decide (s.var = 0)) (inB 0 3 s.event) (decide (s.event = 0)) zero_term zero_term facts0, ← factsP]
  cases s with
  | mk kind var event sum index facts =>
    have hk := of_decide_eq_true hk
    simp only at hk
    subst hk
    rfl
theorem kb8 : ∀ st it tf sz iz f0 v3 v0 e3 e0 : Bool, (sz = true → st = true) → (iz = true → it = true) → (f0 = true → tf = true) → stB' true st it tf true sz false iz true (!f0) false v3 v0 false e3 e0 = (bif (bif (bif (bif v0 then e0 else false) then st else false) then iz else false) then tf else false) := by decide
theorem stm8 (s : Sm) (hk : decide (s.kind = 8) = true) : stmtB s = (bif (bif (bif (bif decide (s.var = 0) then decide (s.event = 0) else false) then s.sum.term else false) then s.index.zero else false) then terms s.facts 6 else false) := by
  rw [← kb8 s.sum.term s.index.term (terms s.facts 6) s.sum.zero s.index.zero (decide ((s.facts.length : Int) = 0)) (inB 0 3 s.var) (decide (s.var = 0)) (inB 0 3 s.event) (decide (s.event = 0)) zero_term zero_term facts0, ← factsP]
  cases s with
  | mk kind var event sum index facts =>
    have hk := of_decide_eq_true hk
    simp only at hk
    subst hk
    rfl
theorem c191 {L : Nat} (h1 : 4096 ≤ L) (h2 : L ≤ 1073741824) {s : Sm} : MC Try.prog L 191 [aSm s] [] (Plain (eI (kidsF s))) := by
 refine MC.alone ?_ rfl
 have hσ := SGok (nt := 185) h1 (Nat.le_trans h2 (by decide))
 refine MC.body hσ Try.func191 (by kernel_rfl) rfl rfl (Nat.le_of_ble_eq_true rfl) (fun hF => ?_)
 refine AWP.seq ?_
 refine AWP.region ?_
 refine AOps.heap (HS.box hσ rfl rfl rfl rfl rfl rfl rfl) rfl ?_
 refine AOps.step (Val.of hσ rfl rfl) rfl rfl rfl ?_
 refine AOps.nil ?_
 refine AWP.seq ?_
 refine AWP.drawR hσ _ [_, _, _, _, _, _, _, _, _, _, _, _, _, _, _, _, _, _, _, _, _] [⟨[], 0, 2, none⟩, ⟨[0], 0, 2, none⟩, ⟨[0, 1], 0, 2, none⟩, ⟨[], 0, 2, none⟩, ⟨[3], 0, 2, none⟩, ⟨[3, 4], 0, 2, none⟩, ⟨[], 0, 0, none⟩, ⟨[6], 0, 0, none⟩, ⟨[6, 7], 0, 0, some 0⟩, ⟨[], 0, 1, none⟩, ⟨[9], 0, 1, none⟩, ⟨[6, 7, 8, 9, 10], 0, 0, some 1⟩, ⟨[], 0, 2, none⟩, ⟨[12], 0, 2, none⟩, ⟨[12, 13], 0, 2, none⟩, ⟨[12, 13, 14], 0, 2, none⟩, ⟨[0, 1, 2, 6, 7, 8, 9, 10, 11], 2, 2, none⟩, ⟨[0, 1, 2, 3, 4, 5, 6, 7, 8, 9, 10, 11, 16], 2, 2, none⟩, ⟨[0, 1, 2, 3, 4, 5, 6, 7, 8, 9, 10, 11, 16, 17], 2, 2, none⟩, ⟨[0, 1, 2, 3, 4, 5, 6, 7, 8, 9, 10, 11, 16, 17, 18], 2, 2, none⟩, ⟨[0, 1, 2, 3, 4, 5, 6, 7, 8, 9, 10, 11, 12, 13, 14, 15, 16, 17, 18, 19], 2, 2, none⟩] [8, 11] [_, _, _] rfl rfl (by decide) (by decide) (by kernel_rfl) (And.intro (And.intro (Val.of hσ rfl rfl) (And.intro (Val.of hσ rfl rfl) (Val.of hσ rfl rfl))) (And.intro (And.intro (Val.of hσ rfl rfl) (And.intro (Val.of hσ rfl rfl) (Val.of hσ rfl rfl))) (And.intro (And.intro (Val.of hσ rfl rfl) (And.intro (Val.of hσ rfl rfl) (Val.of hσ rfl rfl))) (And.intro (And.intro (Val.of hσ rfl rfl) (And.intro (Val.of hσ rfl rfl) (Val.of hσ rfl rfl))) (And.intro (And.intro (Val.of hσ rfl rfl) (And.intro (Val.of hσ rfl rfl) (Val.of hσ rfl rfl))) (And.intro (And.intro (Val.of hσ rfl rfl) (And.intro (Val.of hσ rfl rfl) (Val.of hσ rfl rfl))) (And.intro (Val.of hσ rfl rfl) (And.intro (Val.of hσ rfl rfl) (And.intro (Eff.lone hσ (B0 := 18000) rfl rfl rfl rfl (c206 h1 h2) (VAs.self rfl) rfl rfl rfl rfl rfl) (And.intro (And.intro (Val.of hσ rfl rfl) (Val.of hσ rfl rfl)) (And.intro (And.intro (Val.of hσ rfl rfl) (Val.of hσ rfl rfl)) (And.intro (Eff.lone hσ (B0 := 21000) rfl rfl rfl rfl (c206 h1 h2) (VAs.self rfl) rfl rfl rfl rfl rfl) (And.intro (And.intro (Val.of hσ rfl rfl) (And.intro (Val.of hσ rfl rfl) (Val.of hσ rfl rfl))) (And.intro (And.intro (Val.of hσ rfl rfl) (And.intro (Val.of hσ rfl rfl) (Val.of hσ rfl rfl))) (And.intro (And.intro (Val.lenD hσ rfl rfl rfl rfl rfl rfl rfl rfl) (And.intro (Val.lenD hσ rfl rfl rfl rfl rfl rfl rfl rfl) (Val.lenD hσ rfl rfl rfl rfl rfl rfl rfl rfl))) (And.intro (And.intro (Val.of hσ rfl rfl) (And.intro (Val.of hσ rfl rfl) (Val.of hσ rfl rfl))) (And.intro (Val.of hσ rfl rfl) (And.intro (Val.of hσ rfl rfl) (And.intro (Val.of hσ rfl rfl) (And.intro (Val.of hσ rfl rfl) (And.intro (Val.of hσ rfl rfl) trivial))))))))))))))))))))) ?_
 refine AWP.forget [(7, _), (6, _), (5, _), (4, _), (3, _), (2, _), (1, _), (0, _)] ⟨rfl, rfl, rfl, rfl, rfl, rfl, rfl, rfl, trivial⟩ ?_
 apply AWP.norm
 ·
  repeat' (first | exact q0 rfl | apply q1 rfl | exact q2 rfl | apply q3 rfl | exact q4 rfl | apply q5 rfl | exact q6 rfl | exact q7 rfl | exact q8)
 refine AWP.seq ?_
 refine AWP.region ?_
 refine AOps.step (Val.of hσ rfl rfl) rfl rfl rfl ?_
 refine AOps.nil ?_
 refine AWP.seq ?_
 refine AWP.seq ?_
 refine AWP.region ?_
 refine AOps.step (Val.of hσ rfl rfl) rfl rfl rfl ?_
 refine AOps.step (Val.of hσ rfl rfl) rfl rfl rfl ?_
 refine AOps.nil ?_
 refine AWP.block ?_
 refine AWP.seq ?_
 refine AWP.region ?_
 refine AOps.step (Val.of hσ rfl rfl) rfl rfl rfl ?_
 refine AOps.step (Val.of hσ rfl rfl) rfl rfl rfl ?_
 refine AOps.nil ?_
 refine AWP.cond hσ rfl rfl (fun hc27 => ?_) (fun hc27 => ?_)
 ·
  skip
  refine AWP.seq ?_
  refine AWP.region ?_
  refine AOps.step (Val.of hσ rfl rfl) rfl rfl rfl ?_
  refine AOps.step (Val.of hσ rfl rfl) rfl rfl rfl ?_
  refine AOps.forget [(30, _), (28, _), (26, _), (25, _), (8, _), (7, _), (6, _), (5, _), (4, _), (3, _), (2, _), (1, _), (0, _)] ⟨rfl, rfl, rfl, rfl, rfl, rfl, rfl, rfl, rfl, rfl, rfl, rfl, rfl, trivial⟩ ?_
  refine AOps.gr 1 rfl rfl rfl (fun hx => AN.step hx rfl rfl rfl (Val.of hσ rfl rfl) rfl rfl ( AN.nil)) rfl rfl ?_
  first | refine AOps.step (Val.pickT hσ rfl rfl rfl rfl rfl) rfl rfl rfl ?_ | refine AOps.step (Val.pickF hσ rfl rfl rfl rfl rfl) rfl rfl rfl ?_ | refine AOps.step (Val.pickB hσ rfl rfl rfl rfl rfl) rfl rfl rfl ?_
  refine AOps.step (Val.of hσ rfl rfl) rfl rfl rfl ?_
  refine AOps.forget [(33, _), (28, _), (26, _), (25, _), (8, _), (7, _), (6, _), (5, _), (4, _), (3, _), (2, _), (1, _), (0, _)] ⟨rfl, rfl, rfl, rfl, rfl, rfl, rfl, rfl, rfl, rfl, rfl, rfl, rfl, trivial⟩ ?_
  refine AOps.gr 1 rfl rfl rfl (fun hx => AN.step hx rfl rfl rfl (Val.of hσ rfl rfl) rfl rfl ( AN.nil)) rfl rfl ?_
  first | refine AOps.step (Val.pickT hσ rfl rfl rfl rfl rfl) rfl rfl rfl ?_ | refine AOps.step (Val.pickF hσ rfl rfl rfl rfl rfl) rfl rfl rfl ?_ | refine AOps.step (Val.pickB hσ rfl rfl rfl rfl rfl) rfl rfl rfl ?_
  refine AOps.step (Val.of hσ rfl rfl) rfl rfl rfl ?_
  refine AOps.forget [(36, _), (28, _), (26, _), (25, _), (8, _), (7, _), (6, _), (5, _), (4, _), (3, _), (2, _), (1, _), (0, _)] ⟨rfl, rfl, rfl, rfl, rfl, rfl, rfl, rfl, rfl, rfl, rfl, rfl, rfl, trivial⟩ ?_
  refine AOps.gr 1 rfl rfl rfl (fun hx => AN.step hx rfl rfl rfl (Val.of hσ rfl rfl) rfl rfl ( AN.nil)) rfl rfl ?_
  first | refine AOps.step (Val.pickT hσ rfl rfl rfl rfl rfl) rfl rfl rfl ?_ | refine AOps.step (Val.pickF hσ rfl rfl rfl rfl rfl) rfl rfl rfl ?_ | refine AOps.step (Val.pickB hσ rfl rfl rfl rfl rfl) rfl rfl rfl ?_
  refine AOps.step (Val.of hσ rfl rfl) rfl rfl rfl ?_
  refine AOps.forget [(39, _), (28, _), (26, _), (25, _), (8, _), (7, _), (6, _), (5, _), (4, _), (3, _), (2, _), (1, _), (0, _)] ⟨rfl, rfl, rfl, rfl, rfl, rfl, rfl, rfl, rfl, rfl, rfl, rfl, rfl, trivial⟩ ?_
  refine AOps.gr 1 rfl rfl rfl (fun hx => AN.step hx rfl rfl rfl (Val.of hσ rfl rfl) rfl rfl ( AN.nil)) rfl rfl ?_
  first | refine AOps.step (Val.pickT hσ rfl rfl rfl rfl rfl) rfl rfl rfl ?_ | refine AOps.step (Val.pickF hσ rfl rfl rfl rfl rfl) rfl rfl rfl ?_ | refine AOps.step (Val.pickB hσ rfl rfl rfl rfl rfl) rfl rfl rfl ?_
  refine AOps.forget [(41, _), (28, _), (26, _), (25, _), (8, _), (7, _), (6, _), (5, _), (4, _), (3, _), (2, _), (1, _), (0, _)] ⟨rfl, rfl, rfl, rfl, rfl, rfl, rfl, rfl, rfl, rfl, rfl, rfl, rfl, trivial⟩ ?_
  refine AOps.nil ?_
  refine AWP.cond hσ rfl rfl (fun hc41 => ?_) (fun hc41 => ?_)
  ·
   skip
   refine AWP.region ?_
   refine AOps.step (Val.of hσ rfl rfl) rfl rfl rfl ?_
   refine AOps.nil ?_
   refine AWP.seq ?_
   refine AWP.region ?_
   refine AOps.step (Val.of hσ rfl rfl) rfl rfl rfl ?_
   refine AOps.step (Val.of hσ rfl rfl) rfl rfl rfl ?_
   refine AOps.forget [(2, _), (28, _), (26, _), (25, _), (7, _), (6, _), (5, _), (4, _), (3, _), (1, _), (0, _)] ⟨rfl, rfl, rfl, rfl, rfl, rfl, rfl, rfl, rfl, rfl, rfl, trivial⟩ ?_
   refine AOps.nil ?_
   refine AWP.ret ?_
   refine ⟨.inl rfl, _, Ent.refl, _, rfl, ?_⟩
   rw [kidsF, stm0 s hc27, hc41]
   simp [below, of_decide_eq_true hc27]
  ·
   skip
   refine AWP.skip ?_
   refine AWP.seq ?_
   refine AWP.region ?_
   refine AOps.step (Val.of hσ rfl rfl) rfl rfl rfl ?_
   refine AOps.step (Val.of hσ rfl rfl) rfl rfl rfl ?_
   refine AOps.forget [(2, _), (28, _), (26, _), (25, _), (7, _), (6, _), (5, _), (4, _), (3, _), (1, _), (0, _)] ⟨rfl, rfl, rfl, rfl, rfl, rfl, rfl, rfl, rfl, rfl, rfl, trivial⟩ ?_
   refine AOps.nil ?_
   refine AWP.ret ?_
   refine ⟨.inl rfl, _, Ent.refl, _, rfl, ?_⟩
   rw [kidsF, stm0 s hc27, hc41]
   simp
 ·
  skip
  refine AWP.seq ?_
  refine AWP.region ?_
  refine AOps.step (Val.of hσ rfl rfl) rfl rfl rfl ?_
  refine AOps.step (Val.of hσ rfl rfl) rfl rfl rfl ?_
  refine AOps.forget [(42, _), (28, _), (26, _), (25, _), (8, _), (7, _), (6, _), (5, _), (4, _), (3, _), (2, _), (1, _), (0, _)] ⟨rfl, rfl, rfl, rfl, rfl, rfl, rfl, rfl, rfl, rfl, rfl, rfl, rfl, trivial⟩ ?_
  refine AOps.nil ?_
  refine AWP.cond hσ rfl rfl (fun hc42 => ?_) (fun hc42 => ?_)
  ·
   skip
   refine AWP.seq ?_
   refine AWP.region ?_
   refine AOps.step (Val.of hσ rfl rfl) rfl rfl rfl ?_
   refine AOps.step (Val.of hσ rfl rfl) rfl rfl rfl ?_
   refine AOps.forget [(45, _), (28, _), (26, _), (25, _), (8, _), (7, _), (6, _), (5, _), (4, _), (3, _), (2, _), (1, _), (0, _)] ⟨rfl, rfl, rfl, rfl, rfl, rfl, rfl, rfl, rfl, rfl, rfl, rfl, rfl, trivial⟩ ?_
   refine AOps.gr 1 rfl rfl rfl (fun hx => AN.step hx rfl rfl rfl (Val.of hσ rfl rfl) rfl rfl ( AN.nil)) rfl rfl ?_
   first | refine AOps.step (Val.pickT hσ rfl rfl rfl rfl rfl) rfl rfl rfl ?_ | refine AOps.step (Val.pickF hσ rfl rfl rfl rfl rfl) rfl rfl rfl ?_ | refine AOps.step (Val.pickB hσ rfl rfl rfl rfl rfl) rfl rfl rfl ?_
   refine AOps.step (Val.of hσ rfl rfl) rfl rfl rfl ?_
   refine AOps.forget [(48, _), (28, _), (26, _), (25, _), (8, _), (7, _), (6, _), (5, _), (4, _), (3, _), (2, _), (1, _), (0, _)] ⟨rfl, rfl, rfl, rfl, rfl, rfl, rfl, rfl, rfl, rfl, rfl, rfl, rfl, trivial⟩ ?_
   refine AOps.gr 1 rfl rfl rfl (fun hx => AN.step hx rfl rfl rfl (Val.of hσ rfl rfl) rfl rfl ( AN.nil)) rfl rfl ?_
   first | refine AOps.step (Val.pickT hσ rfl rfl rfl rfl rfl) rfl rfl rfl ?_ | refine AOps.step (Val.pickF hσ rfl rfl rfl rfl rfl) rfl rfl rfl ?_ | refine AOps.step (Val.pickB hσ rfl rfl rfl rfl rfl) rfl rfl rfl ?_
   refine AOps.step (Val.of hσ rfl rfl) rfl rfl rfl ?_
   refine AOps.forget [(51, _), (28, _), (26, _), (25, _), (8, _), (7, _), (6, _), (5, _), (4, _), (3, _), (2, _), (1, _), (0, _)] ⟨rfl, rfl, rfl, rfl, rfl, rfl, rfl, rfl, rfl, rfl, rfl, rfl, rfl, trivial⟩ ?_
   refine AOps.gr 1 rfl rfl rfl (fun hx => AN.step hx rfl rfl rfl (Val.of hσ rfl rfl) rfl rfl ( AN.nil)) rfl rfl ?_
   first | refine AOps.step (Val.pickT hσ rfl rfl rfl rfl rfl) rfl rfl rfl ?_ | refine AOps.step (Val.pickF hσ rfl rfl rfl rfl rfl) rfl rfl rfl ?_ | refine AOps.step (Val.pickB hσ rfl rfl rfl rfl rfl) rfl rfl rfl ?_
   refine AOps.step (Val.of hσ rfl rfl) rfl rfl rfl ?_
   refine AOps.forget [(54, _), (28, _), (26, _), (25, _), (8, _), (7, _), (6, _), (5, _), (4, _), (3, _), (2, _), (1, _), (0, _)] ⟨rfl, rfl, rfl, rfl, rfl, rfl, rfl, rfl, rfl, rfl, rfl, rfl, rfl, trivial⟩ ?_
   refine AOps.gr 1 rfl rfl rfl (fun hx => AN.step hx rfl rfl rfl (Val.of hσ rfl rfl) rfl rfl ( AN.nil)) rfl rfl ?_
   first | refine AOps.step (Val.pickT hσ rfl rfl rfl rfl rfl) rfl rfl rfl ?_ | refine AOps.step (Val.pickF hσ rfl rfl rfl rfl rfl) rfl rfl rfl ?_ | refine AOps.step (Val.pickB hσ rfl rfl rfl rfl rfl) rfl rfl rfl ?_
   refine AOps.forget [(56, _), (28, _), (26, _), (25, _), (8, _), (7, _), (6, _), (5, _), (4, _), (3, _), (2, _), (1, _), (0, _)] ⟨rfl, rfl, rfl, rfl, rfl, rfl, rfl, rfl, rfl, rfl, rfl, rfl, rfl, trivial⟩ ?_
   refine AOps.nil ?_
   refine AWP.cond hσ rfl rfl (fun hc56 => ?_) (fun hc56 => ?_)
   ·
    skip
    refine AWP.region ?_
    refine AOps.step (Val.of hσ rfl rfl) rfl rfl rfl ?_
    refine AOps.nil ?_
    refine AWP.seq ?_
    refine AWP.region ?_
    refine AOps.step (Val.of hσ rfl rfl) rfl rfl rfl ?_
    refine AOps.step (Val.of hσ rfl rfl) rfl rfl rfl ?_
    refine AOps.forget [(2, _), (28, _), (26, _), (25, _), (7, _), (6, _), (5, _), (4, _), (3, _), (1, _), (0, _)] ⟨rfl, rfl, rfl, rfl, rfl, rfl, rfl, rfl, rfl, rfl, rfl, trivial⟩ ?_
    refine AOps.nil ?_
    refine AWP.ret ?_
    refine ⟨.inl rfl, _, Ent.refl, _, rfl, ?_⟩
    rw [kidsF, stm1 s hc42, hc56]
    simp [below, of_decide_eq_true hc42]
   ·
    skip
    refine AWP.skip ?_
    refine AWP.seq ?_
    refine AWP.region ?_
    refine AOps.step (Val.of hσ rfl rfl) rfl rfl rfl ?_
    refine AOps.step (Val.of hσ rfl rfl) rfl rfl rfl ?_
    refine AOps.forget [(2, _), (28, _), (26, _), (25, _), (7, _), (6, _), (5, _), (4, _), (3, _), (1, _), (0, _)] ⟨rfl, rfl, rfl, rfl, rfl, rfl, rfl, rfl, rfl, rfl, rfl, trivial⟩ ?_
    refine AOps.nil ?_
    refine AWP.ret ?_
    refine ⟨.inl rfl, _, Ent.refl, _, rfl, ?_⟩
    rw [kidsF, stm1 s hc42, hc56]
    simp
  ·
   skip
   refine AWP.seq ?_
   refine AWP.region ?_
   refine AOps.step (Val.of hσ rfl rfl) rfl rfl rfl ?_
   refine AOps.step (Val.of hσ rfl rfl) rfl rfl rfl ?_
   refine AOps.forget [(57, _), (28, _), (26, _), (25, _), (8, _), (7, _), (6, _), (5, _), (4, _), (3, _), (2, _), (1, _), (0, _)] ⟨rfl, rfl, rfl, rfl, rfl, rfl, rfl, rfl, rfl, rfl, rfl, rfl, rfl, trivial⟩ ?_
   refine AOps.nil ?_
   refine AWP.cond hσ rfl rfl (fun hc57 => ?_) (fun hc57 => ?_)
   ·
    skip
    refine AWP.seq ?_
    refine AWP.region ?_
    refine AOps.step (Val.of hσ rfl rfl) rfl rfl rfl ?_
    refine AOps.step (Val.of hσ rfl rfl) rfl rfl rfl ?_
    refine AOps.forget [(60, _), (28, _), (26, _), (25, _), (8, _), (7, _), (6, _), (5, _), (4, _), (3, _), (2, _), (1, _), (0, _)] ⟨rfl, rfl, rfl, rfl, rfl, rfl, rfl, rfl, rfl, rfl, rfl, rfl, rfl, trivial⟩ ?_
    refine AOps.lone hσ rfl rfl rfl rfl (c193 h1 h2) (VAs.self rfl) rfl rfl rfl rfl rfl (B0 := 62000) rfl ?_
    refine AOps.step (Val.of hσ rfl rfl) rfl rfl rfl ?_
    refine AOps.forget [(62, _), (28, _), (26, _), (25, _), (8, _), (7, _), (6, _), (5, _), (4, _), (3, _), (2, _), (1, _), (0, _)] ⟨rfl, rfl, rfl, rfl, rfl, rfl, rfl, rfl, rfl, rfl, rfl, rfl, rfl, trivial⟩ ?_
    refine AOps.gr 1 rfl rfl rfl (fun hx => AN.step hx rfl rfl rfl (Val.of hσ rfl rfl) rfl rfl ( AN.nil)) rfl rfl ?_
    first | refine AOps.step (Val.pickT hσ rfl rfl rfl rfl rfl) rfl rfl rfl ?_ | refine AOps.step (Val.pickF hσ rfl rfl rfl rfl rfl) rfl rfl rfl ?_ | refine AOps.step (Val.pickB hσ rfl rfl rfl rfl rfl) rfl rfl rfl ?_
    refine AOps.step (Val.of hσ rfl rfl) rfl rfl rfl ?_
    refine AOps.forget [(65, _), (28, _), (26, _), (25, _), (8, _), (7, _), (6, _), (5, _), (4, _), (3, _), (2, _), (1, _), (0, _)] ⟨rfl, rfl, rfl, rfl, rfl, rfl, rfl, rfl, rfl, rfl, rfl, rfl, rfl, trivial⟩ ?_
    refine AOps.gr 3 rfl rfl rfl (fun hx => AN.step hx rfl rfl rfl (Val.of hσ rfl rfl) rfl rfl ( AN.step hx rfl rfl rfl (Val.of hσ rfl rfl) rfl rfl ( AN.lone hσ hx rfl rfl rfl rfl (c171 h1 h2) (VAs.self rfl) rfl rfl rfl rfl rfl rfl rfl (B0 := 69000) rfl ( AN.nil)))) rfl rfl ?_
    first | refine AOps.step (Val.pickT hσ rfl rfl rfl rfl rfl) rfl rfl rfl ?_ | refine AOps.step (Val.pickF hσ rfl rfl rfl rfl rfl) rfl rfl rfl ?_ | refine AOps.step (Val.pickB hσ rfl rfl rfl rfl rfl) rfl rfl rfl ?_
    refine AOps.step (Val.of hσ rfl rfl) rfl rfl rfl ?_
    refine AOps.forget [(70, _), (28, _), (26, _), (25, _), (8, _), (7, _), (6, _), (5, _), (4, _), (3, _), (2, _), (1, _), (0, _)] ⟨rfl, rfl, rfl, rfl, rfl, rfl, rfl, rfl, rfl, rfl, rfl, rfl, rfl, trivial⟩ ?_
    refine AOps.gr 1 rfl rfl rfl (fun hx => AN.step hx rfl rfl rfl (Val.of hσ rfl rfl) rfl rfl ( AN.nil)) rfl rfl ?_
    first | refine AOps.step (Val.pickT hσ rfl rfl rfl rfl rfl) rfl rfl rfl ?_ | refine AOps.step (Val.pickF hσ rfl rfl rfl rfl rfl) rfl rfl rfl ?_ | refine AOps.step (Val.pickB hσ rfl rfl rfl rfl rfl) rfl rfl rfl ?_
    refine AOps.step (Val.of hσ rfl rfl) rfl rfl rfl ?_
    refine AOps.forget [(73, _), (28, _), (26, _), (25, _), (8, _), (7, _), (6, _), (5, _), (4, _), (3, _), (2, _), (1, _), (0, _)] ⟨rfl, rfl, rfl, rfl, rfl, rfl, rfl, rfl, rfl, rfl, rfl, rfl, rfl, trivial⟩ ?_
    refine AOps.gr 1 rfl rfl rfl (fun hx => AN.step hx rfl rfl rfl (Val.of hσ rfl rfl) rfl rfl ( AN.nil)) rfl rfl ?_
    first | refine AOps.step (Val.pickT hσ rfl rfl rfl rfl rfl) rfl rfl rfl ?_ | refine AOps.step (Val.pickF hσ rfl rfl rfl rfl rfl) rfl rfl rfl ?_ | refine AOps.step (Val.pickB hσ rfl rfl rfl rfl rfl) rfl rfl rfl ?_
    refine AOps.forget [(75, _), (28, _), (26, _), (25, _), (8, _), (7, _), (6, _), (5, _), (4, _), (3, _), (2, _), (1, _), (0, _)] ⟨rfl, rfl, rfl, rfl, rfl, rfl, rfl, rfl, rfl, rfl, rfl, rfl, rfl, trivial⟩ ?_
    refine AOps.nil ?_
    refine AWP.cond hσ rfl rfl (fun hc75 => ?_) (fun hc75 => ?_)
    ·
     skip
     refine AWP.region ?_
     refine AOps.step (Val.of hσ rfl rfl) rfl rfl rfl ?_
     refine AOps.nil ?_
     refine AWP.seq ?_
     refine AWP.region ?_
     refine AOps.step (Val.of hσ rfl rfl) rfl rfl rfl ?_
     refine AOps.step (Val.of hσ rfl rfl) rfl rfl rfl ?_
     refine AOps.forget [(2, _), (28, _), (26, _), (25, _), (7, _), (6, _), (5, _), (4, _), (3, _), (1, _), (0, _)] ⟨rfl, rfl, rfl, rfl, rfl, rfl, rfl, rfl, rfl, rfl, rfl, trivial⟩ ?_
     refine AOps.nil ?_
     refine AWP.ret ?_
     refine ⟨.inl rfl, _, Ent.refl, _, rfl, ?_⟩
     rw [kidsF, stm2 s hc57, hc75]
     simp [below, of_decide_eq_true hc57]
    ·
     skip
     refine AWP.skip ?_
     refine AWP.seq ?_
     refine AWP.region ?_
     refine AOps.step (Val.of hσ rfl rfl) rfl rfl rfl ?_
     refine AOps.step (Val.of hσ rfl rfl) rfl rfl rfl ?_
     refine AOps.forget [(2, _), (28, _), (26, _), (25, _), (7, _), (6, _), (5, _), (4, _), (3, _), (1, _), (0, _)] ⟨rfl, rfl, rfl, rfl, rfl, rfl, rfl, rfl, rfl, rfl, rfl, trivial⟩ ?_
     refine AOps.nil ?_
     refine AWP.ret ?_
     refine ⟨.inl rfl, _, Ent.refl, _, rfl, ?_⟩
     rw [kidsF, stm2 s hc57, hc75]
     simp
   ·
    skip
    refine AWP.seq ?_
    refine AWP.region ?_
    refine AOps.step (Val.of hσ rfl rfl) rfl rfl rfl ?_
    refine AOps.step (Val.of hσ rfl rfl) rfl rfl rfl ?_
    refine AOps.forget [(76, _), (28, _), (26, _), (25, _), (8, _), (7, _), (6, _), (5, _), (4, _), (3, _), (2, _), (1, _), (0, _)] ⟨rfl, rfl, rfl, rfl, rfl, rfl, rfl, rfl, rfl, rfl, rfl, rfl, rfl, trivial⟩ ?_
    refine AOps.nil ?_
    refine AWP.cond hσ rfl rfl (fun hc76 => ?_) (fun hc76 => ?_)
    ·
     skip
     refine AWP.seq ?_
     refine AWP.region ?_
     refine AOps.step (Val.of hσ rfl rfl) rfl rfl rfl ?_
     refine AOps.step (Val.of hσ rfl rfl) rfl rfl rfl ?_
     refine AOps.forget [(79, _), (28, _), (26, _), (25, _), (8, _), (7, _), (6, _), (5, _), (4, _), (3, _), (2, _), (1, _), (0, _)] ⟨rfl, rfl, rfl, rfl, rfl, rfl, rfl, rfl, rfl, rfl, rfl, rfl, rfl, trivial⟩ ?_
     refine AOps.lone hσ rfl rfl rfl rfl (c193 h1 h2) (VAs.self rfl) rfl rfl rfl rfl rfl (B0 := 81000) rfl ?_
     refine AOps.step (Val.of hσ rfl rfl) rfl rfl rfl ?_
     refine AOps.forget [(81, _), (28, _), (26, _), (25, _), (8, _), (7, _), (6, _), (5, _), (4, _), (3, _), (2, _), (1, _), (0, _)] ⟨rfl, rfl, rfl, rfl, rfl, rfl, rfl, rfl, rfl, rfl, rfl, rfl, rfl, trivial⟩ ?_
     refine AOps.gr 1 rfl rfl rfl (fun hx => AN.step hx rfl rfl rfl (Val.of hσ rfl rfl) rfl rfl ( AN.nil)) rfl rfl ?_
     first | refine AOps.step (Val.pickT hσ rfl rfl rfl rfl rfl) rfl rfl rfl ?_ | refine AOps.step (Val.pickF hσ rfl rfl rfl rfl rfl) rfl rfl rfl ?_ | refine AOps.step (Val.pickB hσ rfl rfl rfl rfl rfl) rfl rfl rfl ?_
     refine AOps.step (Val.of hσ rfl rfl) rfl rfl rfl ?_
     refine AOps.forget [(84, _), (28, _), (26, _), (25, _), (8, _), (7, _), (6, _), (5, _), (4, _), (3, _), (2, _), (1, _), (0, _)] ⟨rfl, rfl, rfl, rfl, rfl, rfl, rfl, rfl, rfl, rfl, rfl, rfl, rfl, trivial⟩ ?_
     refine AOps.gr 1 rfl rfl rfl (fun hx => AN.step hx rfl rfl rfl (Val.of hσ rfl rfl) rfl rfl ( AN.nil)) rfl rfl ?_
     first | refine AOps.step (Val.pickT hσ rfl rfl rfl rfl rfl) rfl rfl rfl ?_ | refine AOps.step (Val.pickF hσ rfl rfl rfl rfl rfl) rfl rfl rfl ?_ | refine AOps.step (Val.pickB hσ rfl rfl rfl rfl rfl) rfl rfl rfl ?_
     refine AOps.step (Val.of hσ rfl rfl) rfl rfl rfl ?_
     refine AOps.forget [(87, _), (28, _), (26, _), (25, _), (8, _), (7, _), (6, _), (5, _), (4, _), (3, _), (2, _), (1, _), (0, _)] ⟨rfl, rfl, rfl, rfl, rfl, rfl, rfl, rfl, rfl, rfl, rfl, rfl, rfl, trivial⟩ ?_
     refine AOps.gr 3 rfl rfl rfl (fun hx => AN.step hx rfl rfl rfl (Val.of hσ rfl rfl) rfl rfl ( AN.step hx rfl rfl rfl (Val.of hσ rfl rfl) rfl rfl ( AN.lone hσ hx rfl rfl rfl rfl (c171 h1 h2) (VAs.self rfl) rfl rfl rfl rfl rfl rfl rfl (B0 := 91000) rfl ( AN.nil)))) rfl rfl ?_
     first | refine AOps.step (Val.pickT hσ rfl rfl rfl rfl rfl) rfl rfl rfl ?_ | refine AOps.step (Val.pickF hσ rfl rfl rfl rfl rfl) rfl rfl rfl ?_ | refine AOps.step (Val.pickB hσ rfl rfl rfl rfl rfl) rfl rfl rfl ?_
     refine AOps.step (Val.of hσ rfl rfl) rfl rfl rfl ?_
     refine AOps.forget [(92, _), (28, _), (26, _), (25, _), (8, _), (7, _), (6, _), (5, _), (4, _), (3, _), (2, _), (1, _), (0, _)] ⟨rfl, rfl, rfl, rfl, rfl, rfl, rfl, rfl, rfl, rfl, rfl, rfl, rfl, trivial⟩ ?_
     refine AOps.gr 1 rfl rfl rfl (fun hx => AN.step hx rfl rfl rfl (Val.of hσ rfl rfl) rfl rfl ( AN.nil)) rfl rfl ?_
     first | refine AOps.step (Val.pickT hσ rfl rfl rfl rfl rfl) rfl rfl rfl ?_ | refine AOps.step (Val.pickF hσ rfl rfl rfl rfl rfl) rfl rfl rfl ?_ | refine AOps.step (Val.pickB hσ rfl rfl rfl rfl rfl) rfl rfl rfl ?_
     refine AOps.forget [(94, _), (28, _), (26, _), (25, _), (8, _), (7, _), (6, _), (5, _), (4, _), (3, _), (2, _), (1, _), (0, _)] ⟨rfl, rfl, rfl, rfl, rfl, rfl, rfl, rfl, rfl, rfl, rfl, rfl, rfl, trivial⟩ ?_
     refine AOps.nil ?_
     refine AWP.cond hσ rfl rfl (fun hc94 => ?_) (fun hc94 => ?_)
     ·
      skip
      refine AWP.region ?_
      refine AOps.step (Val.of hσ rfl rfl) rfl rfl rfl ?_
      refine AOps.nil ?_
      refine AWP.seq ?_
      refine AWP.region ?_
      refine AOps.step (Val.of hσ rfl rfl) rfl rfl rfl ?_
      refine AOps.step (Val.of hσ rfl rfl) rfl rfl rfl ?_
      refine AOps.forget [(2, _), (28, _), (26, _), (25, _), (7, _), (6, _), (5, _), (4, _), (3, _), (1, _), (0, _)] ⟨rfl, rfl, rfl, rfl, rfl, rfl, rfl, rfl, rfl, rfl, rfl, trivial⟩ ?_
      refine AOps.nil ?_
      refine AWP.ret ?_
      refine ⟨.inl rfl, _, Ent.refl, _, rfl, ?_⟩
      rw [kidsF, stm3 s hc76, hc94]
      simp [below, of_decide_eq_true hc76]
     ·
      skip
      refine AWP.skip ?_
      refine AWP.seq ?_
      refine AWP.region ?_
      refine AOps.step (Val.of hσ rfl rfl) rfl rfl rfl ?_
      refine AOps.step (Val.of hσ rfl rfl) rfl rfl rfl ?_
      refine AOps.forget [(2, _), (28, _), (26, _), (25, _), (7, _), (6, _), (5, _), (4, _), (3, _), (1, _), (0, _)] ⟨rfl, rfl, rfl, rfl, rfl, rfl, rfl, rfl, rfl, rfl, rfl, trivial⟩ ?_
      refine AOps.nil ?_
      refine AWP.ret ?_
      refine ⟨.inl rfl, _, Ent.refl, _, rfl, ?_⟩
      rw [kidsF, stm3 s hc76, hc94]
      simp
    ·
     skip
     refine AWP.seq ?_
     refine AWP.region ?_
     refine AOps.step (Val.of hσ rfl rfl) rfl rfl rfl ?_
     refine AOps.step (Val.of hσ rfl rfl) rfl rfl rfl ?_
     refine AOps.forget [(95, _), (28, _), (26, _), (25, _), (8, _), (7, _), (6, _), (5, _), (4, _), (3, _), (2, _), (1, _), (0, _)] ⟨rfl, rfl, rfl, rfl, rfl, rfl, rfl, rfl, rfl, rfl, rfl, rfl, rfl, trivial⟩ ?_
     refine AOps.nil ?_
     refine AWP.cond hσ rfl rfl (fun hc95 => ?_) (fun hc95 => ?_)
     ·
      skip
      refine AWP.seq ?_
      refine AWP.region ?_
      refine AOps.step (Val.of hσ rfl rfl) rfl rfl rfl ?_
      refine AOps.step (Val.of hσ rfl rfl) rfl rfl rfl ?_
      refine AOps.forget [(98, _), (28, _), (26, _), (25, _), (8, _), (7, _), (6, _), (5, _), (4, _), (3, _), (2, _), (1, _), (0, _)] ⟨rfl, rfl, rfl, rfl, rfl, rfl, rfl, rfl, rfl, rfl, rfl, rfl, rfl, trivial⟩ ?_
      refine AOps.gr 1 rfl rfl rfl (fun hx => AN.step hx rfl rfl rfl (Val.of hσ rfl rfl) rfl rfl ( AN.nil)) rfl rfl ?_
      first | refine AOps.step (Val.pickT hσ rfl rfl rfl rfl rfl) rfl rfl rfl ?_ | refine AOps.step (Val.pickF hσ rfl rfl rfl rfl rfl) rfl rfl rfl ?_ | refine AOps.step (Val.pickB hσ rfl rfl rfl rfl rfl) rfl rfl rfl ?_
      refine AOps.step (Val.of hσ rfl rfl) rfl rfl rfl ?_
      refine AOps.forget [(101, _), (28, _), (26, _), (25, _), (8, _), (7, _), (6, _), (5, _), (4, _), (3, _), (2, _), (1, _), (0, _)] ⟨rfl, rfl, rfl, rfl, rfl, rfl, rfl, rfl, rfl, rfl, rfl, rfl, rfl, trivial⟩ ?_
      refine AOps.gr 3 rfl rfl rfl (fun hx => AN.step hx rfl rfl rfl (Val.of hσ rfl rfl) rfl rfl ( AN.step hx rfl rfl rfl (Val.of hσ rfl rfl) rfl rfl ( AN.lone hσ hx rfl rfl rfl rfl (c171 h1 h2) (VAs.self rfl) rfl rfl rfl rfl rfl rfl rfl (B0 := 105000) rfl ( AN.nil)))) rfl rfl ?_
      first | refine AOps.step (Val.pickT hσ rfl rfl rfl rfl rfl) rfl rfl rfl ?_ | refine AOps.step (Val.pickF hσ rfl rfl rfl rfl rfl) rfl rfl rfl ?_ | refine AOps.step (Val.pickB hσ rfl rfl rfl rfl rfl) rfl rfl rfl ?_
      refine AOps.step (Val.of hσ rfl rfl) rfl rfl rfl ?_
      refine AOps.forget [(106, _), (28, _), (26, _), (25, _), (8, _), (7, _), (6, _), (5, _), (4, _), (3, _), (2, _), (1, _), (0, _)] ⟨rfl, rfl, rfl, rfl, rfl, rfl, rfl, rfl, rfl, rfl, rfl, rfl, rfl, trivial⟩ ?_
      refine AOps.gr 3 rfl rfl rfl (fun hx => AN.step hx rfl rfl rfl (Val.of hσ rfl rfl) rfl rfl ( AN.step hx rfl rfl rfl (Val.of hσ rfl rfl) rfl rfl ( AN.lone hσ hx rfl rfl rfl rfl (c171 h1 h2) (VAs.self rfl) rfl rfl rfl rfl rfl rfl rfl (B0 := 110000) rfl ( AN.nil)))) rfl rfl ?_
      first | refine AOps.step (Val.pickT hσ rfl rfl rfl rfl rfl) rfl rfl rfl ?_ | refine AOps.step (Val.pickF hσ rfl rfl rfl rfl rfl) rfl rfl rfl ?_ | refine AOps.step (Val.pickB hσ rfl rfl rfl rfl rfl) rfl rfl rfl ?_
      refine AOps.step (Val.of hσ rfl rfl) rfl rfl rfl ?_
      refine AOps.forget [(111, _), (28, _), (26, _), (25, _), (8, _), (7, _), (6, _), (5, _), (4, _), (3, _), (2, _), (1, _), (0, _)] ⟨rfl, rfl, rfl, rfl, rfl, rfl, rfl, rfl, rfl, rfl, rfl, rfl, rfl, trivial⟩ ?_
      refine AOps.gr 1 rfl rfl rfl (fun hx => AN.step hx rfl rfl rfl (Val.of hσ rfl rfl) rfl rfl ( AN.nil)) rfl rfl ?_
      first | refine AOps.step (Val.pickT hσ rfl rfl rfl rfl rfl) rfl rfl rfl ?_ | refine AOps.step (Val.pickF hσ rfl rfl rfl rfl rfl) rfl rfl rfl ?_ | refine AOps.step (Val.pickB hσ rfl rfl rfl rfl rfl) rfl rfl rfl ?_
      refine AOps.forget [(113, _), (28, _), (26, _), (25, _), (8, _), (7, _), (6, _), (5, _), (4, _), (3, _), (2, _), (1, _), (0, _)] ⟨rfl, rfl, rfl, rfl, rfl, rfl, rfl, rfl, rfl, rfl, rfl, rfl, rfl, trivial⟩ ?_
      refine AOps.nil ?_
      refine AWP.cond hσ rfl rfl (fun hc113 => ?_) (fun hc113 => ?_)
      ·
       skip
       refine AWP.region ?_
       refine AOps.step (Val.of hσ rfl rfl) rfl rfl rfl ?_
       refine AOps.nil ?_
       refine AWP.seq ?_
       refine AWP.region ?_
       refine AOps.step (Val.of hσ rfl rfl) rfl rfl rfl ?_
       refine AOps.step (Val.of hσ rfl rfl) rfl rfl rfl ?_
       refine AOps.forget [(2, _), (28, _), (26, _), (25, _), (7, _), (6, _), (5, _), (4, _), (3, _), (1, _), (0, _)] ⟨rfl, rfl, rfl, rfl, rfl, rfl, rfl, rfl, rfl, rfl, rfl, trivial⟩ ?_
       refine AOps.nil ?_
       refine AWP.ret ?_
       refine ⟨.inl rfl, _, Ent.refl, _, rfl, ?_⟩
       rw [kidsF, stm4 s hc95, hc113]
       simp [below, of_decide_eq_true hc95]
      ·
       skip
       refine AWP.skip ?_
       refine AWP.seq ?_
       refine AWP.region ?_
       refine AOps.step (Val.of hσ rfl rfl) rfl rfl rfl ?_
       refine AOps.step (Val.of hσ rfl rfl) rfl rfl rfl ?_
       refine AOps.forget [(2, _), (28, _), (26, _), (25, _), (7, _), (6, _), (5, _), (4, _), (3, _), (1, _), (0, _)] ⟨rfl, rfl, rfl, rfl, rfl, rfl, rfl, rfl, rfl, rfl, rfl, trivial⟩ ?_
       refine AOps.nil ?_
       refine AWP.ret ?_
       refine ⟨.inl rfl, _, Ent.refl, _, rfl, ?_⟩
       rw [kidsF, stm4 s hc95, hc113]
       simp
     ·
      skip
      refine AWP.seq ?_
      refine AWP.region ?_
      refine AOps.step (Val.of hσ rfl rfl) rfl rfl rfl ?_
      refine AOps.step (Val.of hσ rfl rfl) rfl rfl rfl ?_
      refine AOps.forget [(114, _), (28, _), (26, _), (25, _), (8, _), (7, _), (6, _), (5, _), (4, _), (3, _), (2, _), (1, _), (0, _)] ⟨rfl, rfl, rfl, rfl, rfl, rfl, rfl, rfl, rfl, rfl, rfl, rfl, rfl, trivial⟩ ?_
      refine AOps.nil ?_
      refine AWP.cond hσ rfl rfl (fun hc114 => ?_) (fun hc114 => ?_)
      ·
       skip
       refine AWP.seq ?_
       refine AWP.region ?_
       refine AOps.step (Val.of hσ rfl rfl) rfl rfl rfl ?_
       refine AOps.step (Val.of hσ rfl rfl) rfl rfl rfl ?_
       refine AOps.forget [(117, _), (28, _), (26, _), (25, _), (8, _), (7, _), (6, _), (5, _), (4, _), (3, _), (2, _), (1, _), (0, _)] ⟨rfl, rfl, rfl, rfl, rfl, rfl, rfl, rfl, rfl, rfl, rfl, rfl, rfl, trivial⟩ ?_
       refine AOps.gr 3 rfl rfl rfl (fun hx => AN.step hx rfl rfl rfl (Val.of hσ rfl rfl) rfl rfl ( AN.step hx rfl rfl rfl (Val.of hσ rfl rfl) rfl rfl ( AN.lone hσ hx rfl rfl rfl rfl (c195 h1 h2) (VAs.self rfl) rfl rfl rfl rfl rfl rfl rfl (B0 := 121000) rfl ( AN.nil)))) rfl rfl ?_
       first | refine AOps.step (Val.pickT hσ rfl rfl rfl rfl rfl) rfl rfl rfl ?_ | refine AOps.step (Val.pickF hσ rfl rfl rfl rfl rfl) rfl rfl rfl ?_ | refine AOps.step (Val.pickB hσ rfl rfl rfl rfl rfl) rfl rfl rfl ?_
       refine AOps.step (Val.of hσ rfl rfl) rfl rfl rfl ?_
       refine AOps.forget [(122, _), (28, _), (26, _), (25, _), (8, _), (7, _), (6, _), (5, _), (4, _), (3, _), (2, _), (1, _), (0, _)] ⟨rfl, rfl, rfl, rfl, rfl, rfl, rfl, rfl, rfl, rfl, rfl, rfl, rfl, trivial⟩ ?_
       refine AOps.gr 1 rfl rfl rfl (fun hx => AN.step hx rfl rfl rfl (Val.of hσ rfl rfl) rfl rfl ( AN.nil)) rfl rfl ?_
       first | refine AOps.step (Val.pickT hσ rfl rfl rfl rfl rfl) rfl rfl rfl ?_ | refine AOps.step (Val.pickF hσ rfl rfl rfl rfl rfl) rfl rfl rfl ?_ | refine AOps.step (Val.pickB hσ rfl rfl rfl rfl rfl) rfl rfl rfl ?_
       refine AOps.step (Val.of hσ rfl rfl) rfl rfl rfl ?_
       refine AOps.forget [(125, _), (28, _), (26, _), (25, _), (8, _), (7, _), (6, _), (5, _), (4, _), (3, _), (2, _), (1, _), (0, _)] ⟨rfl, rfl, rfl, rfl, rfl, rfl, rfl, rfl, rfl, rfl, rfl, rfl, rfl, trivial⟩ ?_
       refine AOps.gr 1 rfl rfl rfl (fun hx => AN.step hx rfl rfl rfl (Val.of hσ rfl rfl) rfl rfl ( AN.nil)) rfl rfl ?_
       first | refine AOps.step (Val.pickT hσ rfl rfl rfl rfl rfl) rfl rfl rfl ?_ | refine AOps.step (Val.pickF hσ rfl rfl rfl rfl rfl) rfl rfl rfl ?_ | refine AOps.step (Val.pickB hσ rfl rfl rfl rfl rfl) rfl rfl rfl ?_
       refine AOps.step (Val.of hσ rfl rfl) rfl rfl rfl ?_
       refine AOps.forget [(128, _), (28, _), (26, _), (25, _), (8, _), (7, _), (6, _), (5, _), (4, _), (3, _), (2, _), (1, _), (0, _)] ⟨rfl, rfl, rfl, rfl, rfl, rfl, rfl, rfl, rfl, rfl, rfl, rfl, rfl, trivial⟩ ?_
       refine AOps.gr 1 rfl rfl rfl (fun hx => AN.step hx rfl rfl rfl (Val.of hσ rfl rfl) rfl rfl ( AN.nil)) rfl rfl ?_
       first | refine AOps.step (Val.pickT hσ rfl rfl rfl rfl rfl) rfl rfl rfl ?_ | refine AOps.step (Val.pickF hσ rfl rfl rfl rfl rfl) rfl rfl rfl ?_ | refine AOps.step (Val.pickB hσ rfl rfl rfl rfl rfl) rfl rfl rfl ?_
       refine AOps.forget [(130, _), (28, _), (26, _), (25, _), (8, _), (7, _), (6, _), (5, _), (4, _), (3, _), (2, _), (1, _), (0, _)] ⟨rfl, rfl, rfl, rfl, rfl, rfl, rfl, rfl, rfl, rfl, rfl, rfl, rfl, trivial⟩ ?_
       refine AOps.nil ?_
       refine AWP.cond hσ rfl rfl (fun hc130 => ?_) (fun hc130 => ?_)
       ·
        skip
        refine AWP.region ?_
        refine AOps.step (Val.of hσ rfl rfl) rfl rfl rfl ?_
        refine AOps.nil ?_
        refine AWP.seq ?_
        refine AWP.region ?_
        refine AOps.step (Val.of hσ rfl rfl) rfl rfl rfl ?_
        refine AOps.step (Val.of hσ rfl rfl) rfl rfl rfl ?_
        refine AOps.forget [(2, _), (28, _), (26, _), (25, _), (7, _), (6, _), (5, _), (4, _), (3, _), (1, _), (0, _)] ⟨rfl, rfl, rfl, rfl, rfl, rfl, rfl, rfl, rfl, rfl, rfl, trivial⟩ ?_
        refine AOps.nil ?_
        refine AWP.ret ?_
        refine ⟨.inl rfl, _, Ent.refl, _, rfl, ?_⟩
        rw [kidsF, stm5 s hc114, hc130]
        simp [below, of_decide_eq_true hc114]
       ·
        skip
        refine AWP.skip ?_
        refine AWP.seq ?_
        refine AWP.region ?_
        refine AOps.step (Val.of hσ rfl rfl) rfl rfl rfl ?_
        refine AOps.step (Val.of hσ rfl rfl) rfl rfl rfl ?_
        refine AOps.forget [(2, _), (28, _), (26, _), (25, _), (7, _), (6, _), (5, _), (4, _), (3, _), (1, _), (0, _)] ⟨rfl, rfl, rfl, rfl, rfl, rfl, rfl, rfl, rfl, rfl, rfl, trivial⟩ ?_
        refine AOps.nil ?_
        refine AWP.ret ?_
        refine ⟨.inl rfl, _, Ent.refl, _, rfl, ?_⟩
        rw [kidsF, stm5 s hc114, hc130]
        simp
      ·
       skip
       refine AWP.seq ?_
       refine AWP.region ?_
       refine AOps.step (Val.of hσ rfl rfl) rfl rfl rfl ?_
       refine AOps.step (Val.of hσ rfl rfl) rfl rfl rfl ?_
       refine AOps.forget [(131, _), (28, _), (26, _), (25, _), (8, _), (7, _), (6, _), (5, _), (4, _), (3, _), (2, _), (1, _), (0, _)] ⟨rfl, rfl, rfl, rfl, rfl, rfl, rfl, rfl, rfl, rfl, rfl, rfl, rfl, trivial⟩ ?_
       refine AOps.nil ?_
       refine AWP.cond hσ rfl rfl (fun hc131 => ?_) (fun hc131 => ?_)
       ·
        skip
        refine AWP.seq ?_
        refine AWP.region ?_
        refine AOps.step (Val.of hσ rfl rfl) rfl rfl rfl ?_
        refine AOps.step (Val.of hσ rfl rfl) rfl rfl rfl ?_
        refine AOps.forget [(134, _), (28, _), (26, _), (25, _), (8, _), (7, _), (6, _), (5, _), (4, _), (3, _), (2, _), (1, _), (0, _)] ⟨rfl, rfl, rfl, rfl, rfl, rfl, rfl, rfl, rfl, rfl, rfl, rfl, rfl, trivial⟩ ?_
        refine AOps.gr 1 rfl rfl rfl (fun hx => AN.step hx rfl rfl rfl (Val.of hσ rfl rfl) rfl rfl ( AN.nil)) rfl rfl ?_
        first | refine AOps.step (Val.pickT hσ rfl rfl rfl rfl rfl) rfl rfl rfl ?_ | refine AOps.step (Val.pickF hσ rfl rfl rfl rfl rfl) rfl rfl rfl ?_ | refine AOps.step (Val.pickB hσ rfl rfl rfl rfl rfl) rfl rfl rfl ?_
        refine AOps.step (Val.of hσ rfl rfl) rfl rfl rfl ?_
        refine AOps.forget [(137, _), (28, _), (26, _), (25, _), (8, _), (7, _), (6, _), (5, _), (4, _), (3, _), (2, _), (1, _), (0, _)] ⟨rfl, rfl, rfl, rfl, rfl, rfl, rfl, rfl, rfl, rfl, rfl, rfl, rfl, trivial⟩ ?_
        refine AOps.gr 3 rfl rfl rfl (fun hx => AN.step hx rfl rfl rfl (Val.of hσ rfl rfl) rfl rfl ( AN.step hx rfl rfl rfl (Val.of hσ rfl rfl) rfl rfl ( AN.lone hσ hx rfl rfl rfl rfl (c171 h1 h2) (VAs.self rfl) rfl rfl rfl rfl rfl rfl rfl (B0 := 141000) rfl ( AN.nil)))) rfl rfl ?_
        first | refine AOps.step (Val.pickT hσ rfl rfl rfl rfl rfl) rfl rfl rfl ?_ | refine AOps.step (Val.pickF hσ rfl rfl rfl rfl rfl) rfl rfl rfl ?_ | refine AOps.step (Val.pickB hσ rfl rfl rfl rfl rfl) rfl rfl rfl ?_
        refine AOps.step (Val.of hσ rfl rfl) rfl rfl rfl ?_
        refine AOps.forget [(142, _), (28, _), (26, _), (25, _), (8, _), (7, _), (6, _), (5, _), (4, _), (3, _), (2, _), (1, _), (0, _)] ⟨rfl, rfl, rfl, rfl, rfl, rfl, rfl, rfl, rfl, rfl, rfl, rfl, rfl, trivial⟩ ?_
        refine AOps.gr 1 rfl rfl rfl (fun hx => AN.step hx rfl rfl rfl (Val.of hσ rfl rfl) rfl rfl ( AN.nil)) rfl rfl ?_
        first | refine AOps.step (Val.pickT hσ rfl rfl rfl rfl rfl) rfl rfl rfl ?_ | refine AOps.step (Val.pickF hσ rfl rfl rfl rfl rfl) rfl rfl rfl ?_ | refine AOps.step (Val.pickB hσ rfl rfl rfl rfl rfl) rfl rfl rfl ?_
        refine AOps.step (Val.of hσ rfl rfl) rfl rfl rfl ?_
        refine AOps.forget [(145, _), (28, _), (26, _), (25, _), (8, _), (7, _), (6, _), (5, _), (4, _), (3, _), (2, _), (1, _), (0, _)] ⟨rfl, rfl, rfl, rfl, rfl, rfl, rfl, rfl, rfl, rfl, rfl, rfl, rfl, trivial⟩ ?_
        refine AOps.gr 1 rfl rfl rfl (fun hx => AN.step hx rfl rfl rfl (Val.of hσ rfl rfl) rfl rfl ( AN.nil)) rfl rfl ?_
        first | refine AOps.step (Val.pickT hσ rfl rfl rfl rfl rfl) rfl rfl rfl ?_ | refine AOps.step (Val.pickF hσ rfl rfl rfl rfl rfl) rfl rfl rfl ?_ | refine AOps.step (Val.pickB hσ rfl rfl rfl rfl rfl) rfl rfl rfl ?_
        refine AOps.forget [(147, _), (28, _), (26, _), (25, _), (8, _), (7, _), (6, _), (5, _), (4, _), (3, _), (2, _), (1, _), (0, _)] ⟨rfl, rfl, rfl, rfl, rfl, rfl, rfl, rfl, rfl, rfl, rfl, rfl, rfl, trivial⟩ ?_
        refine AOps.nil ?_
        refine AWP.cond hσ rfl rfl (fun hc147 => ?_) (fun hc147 => ?_)
        ·
         skip
         refine AWP.region ?_
         refine AOps.step (Val.of hσ rfl rfl) rfl rfl rfl ?_
         refine AOps.nil ?_
         refine AWP.seq ?_
         refine AWP.region ?_
         refine AOps.step (Val.of hσ rfl rfl) rfl rfl rfl ?_
         refine AOps.step (Val.of hσ rfl rfl) rfl rfl rfl ?_
         refine AOps.forget [(2, _), (28, _), (26, _), (25, _), (7, _), (6, _), (5, _), (4, _), (3, _), (1, _), (0, _)] ⟨rfl, rfl, rfl, rfl, rfl, rfl, rfl, rfl, rfl, rfl, rfl, trivial⟩ ?_
         refine AOps.nil ?_
         refine AWP.ret ?_
         refine ⟨.inl rfl, _, Ent.refl, _, rfl, ?_⟩
         rw [kidsF, stm6 s hc131, hc147]
         simp [below, of_decide_eq_true hc131]
        ·
         skip
         refine AWP.skip ?_
         refine AWP.seq ?_
         refine AWP.region ?_
         refine AOps.step (Val.of hσ rfl rfl) rfl rfl rfl ?_
         refine AOps.step (Val.of hσ rfl rfl) rfl rfl rfl ?_
         refine AOps.forget [(2, _), (28, _), (26, _), (25, _), (7, _), (6, _), (5, _), (4, _), (3, _), (1, _), (0, _)] ⟨rfl, rfl, rfl, rfl, rfl, rfl, rfl, rfl, rfl, rfl, rfl, trivial⟩ ?_
         refine AOps.nil ?_
         refine AWP.ret ?_
         refine ⟨.inl rfl, _, Ent.refl, _, rfl, ?_⟩
         rw [kidsF, stm6 s hc131, hc147]
         simp
       ·
        skip
        refine AWP.seq ?_
        refine AWP.region ?_
        refine AOps.step (Val.of hσ rfl rfl) rfl rfl rfl ?_
        refine AOps.step (Val.of hσ rfl rfl) rfl rfl rfl ?_
        refine AOps.forget [(148, _), (28, _), (26, _), (25, _), (8, _), (7, _), (6, _), (5, _), (4, _), (3, _), (2, _), (1, _), (0, _)] ⟨rfl, rfl, rfl, rfl, rfl, rfl, rfl, rfl, rfl, rfl, rfl, rfl, rfl, trivial⟩ ?_
        refine AOps.nil ?_
        refine AWP.cond hσ rfl rfl (fun hc148 => ?_) (fun hc148 => ?_)
        ·
         skip
         refine AWP.seq ?_
         refine AWP.region ?_
         refine AOps.step (Val.of hσ rfl rfl) rfl rfl rfl ?_
         refine AOps.step (Val.of hσ rfl rfl) rfl rfl rfl ?_
         refine AOps.forget [(151, _), (28, _), (26, _), (25, _), (8, _), (7, _), (6, _), (5, _), (4, _), (3, _), (2, _), (1, _), (0, _)] ⟨rfl, rfl, rfl, rfl, rfl, rfl, rfl, rfl, rfl, rfl, rfl, rfl, rfl, trivial⟩ ?_
         refine AOps.gr 1 rfl rfl rfl (fun hx => AN.step hx rfl rfl rfl (Val.of hσ rfl rfl) rfl rfl ( AN.nil)) rfl rfl ?_
         first | refine AOps.step (Val.pickT hσ rfl rfl rfl rfl rfl) rfl rfl rfl ?_ | refine AOps.step (Val.pickF hσ rfl rfl rfl rfl rfl) rfl rfl rfl ?_ | refine AOps.step (Val.pickB hσ rfl rfl rfl rfl rfl) rfl rfl rfl ?_
         refine AOps.step (Val.of hσ rfl rfl) rfl rfl rfl ?_
         refine AOps.forget [(154, _), (28, _), (26, _), (25, _), (8, _), (7, _), (6, _), (5, _), (4, _), (3, _), (2, _), (1, _), (0, _)] ⟨rfl, rfl, rfl, rfl, rfl, rfl, rfl, rfl, rfl, rfl, rfl, rfl, rfl, trivial⟩ ?_
         refine AOps.gr 3 rfl rfl rfl (fun hx => AN.step hx rfl rfl rfl (Val.of hσ rfl rfl) rfl rfl ( AN.step hx rfl rfl rfl (Val.of hσ rfl rfl) rfl rfl ( AN.lone hσ hx rfl rfl rfl rfl (c171 h1 h2) (VAs.self rfl) rfl rfl rfl rfl rfl rfl rfl (B0 := 158000) rfl ( AN.nil)))) rfl rfl ?_
         first | refine AOps.step (Val.pickT hσ rfl rfl rfl rfl rfl) rfl rfl rfl ?_ | refine AOps.step (Val.pickF hσ rfl rfl rfl rfl rfl) rfl rfl rfl ?_ | refine AOps.step (Val.pickB hσ rfl rfl rfl rfl rfl) rfl rfl rfl ?_
         refine AOps.step (Val.of hσ rfl rfl) rfl rfl rfl ?_
         refine AOps.forget [(159, _), (28, _), (26, _), (25, _), (8, _), (7, _), (6, _), (5, _), (4, _), (3, _), (2, _), (1, _), (0, _)] ⟨rfl, rfl, rfl, rfl, rfl, rfl, rfl, rfl, rfl, rfl, rfl, rfl, rfl, trivial⟩ ?_
         refine AOps.gr 1 rfl rfl rfl (fun hx => AN.step hx rfl rfl rfl (Val.of hσ rfl rfl) rfl rfl ( AN.nil)) rfl rfl ?_
         first | refine AOps.step (Val.pickT hσ rfl rfl rfl rfl rfl) rfl rfl rfl ?_ | refine AOps.step (Val.pickF hσ rfl rfl rfl rfl rfl) rfl rfl rfl ?_ | refine AOps.step (Val.pickB hσ rfl rfl rfl rfl rfl) rfl rfl rfl ?_
         refine AOps.step (Val.of hσ rfl rfl) rfl rfl rfl ?_
         refine AOps.forget [(162, _), (28, _), (26, _), (25, _), (8, _), (7, _), (6, _), (5, _), (4, _), (3, _), (2, _), (1, _), (0, _)] ⟨rfl, rfl, rfl, rfl, rfl, rfl, rfl, rfl, rfl, rfl, rfl, rfl, rfl, trivial⟩ ?_
         refine AOps.gr 1 rfl rfl rfl (fun hx => AN.step hx rfl rfl rfl (Val.of hσ rfl rfl) rfl rfl ( AN.nil)) rfl rfl ?_
         first | refine AOps.step (Val.pickT hσ rfl rfl rfl rfl rfl) rfl rfl rfl ?_ | refine AOps.step (Val.pickF hσ rfl rfl rfl rfl rfl) rfl rfl rfl ?_ | refine AOps.step (Val.pickB hσ rfl rfl rfl rfl rfl) rfl rfl rfl ?_
         refine AOps.forget [(164, _), (28, _), (26, _), (25, _), (8, _), (7, _), (6, _), (5, _), (4, _), (3, _), (2, _), (1, _), (0, _)] ⟨rfl, rfl, rfl, rfl, rfl, rfl, rfl, rfl, rfl, rfl, rfl, rfl, rfl, trivial⟩ ?_
         refine AOps.nil ?_
         refine AWP.cond hσ rfl rfl (fun hc164 => ?_) (fun hc164 => ?_)
         ·
          skip
          refine AWP.region ?_
          refine AOps.step (Val.of hσ rfl rfl) rfl rfl rfl ?_
          refine AOps.nil ?_
          refine AWP.seq ?_
          refine AWP.region ?_
          refine AOps.step (Val.of hσ rfl rfl) rfl rfl rfl ?_
          refine AOps.step (Val.of hσ rfl rfl) rfl rfl rfl ?_
          refine AOps.forget [(2, _), (28, _), (26, _), (25, _), (7, _), (6, _), (5, _), (4, _), (3, _), (1, _), (0, _)] ⟨rfl, rfl, rfl, rfl, rfl, rfl, rfl, rfl, rfl, rfl, rfl, trivial⟩ ?_
          refine AOps.nil ?_
          refine AWP.ret ?_
          refine ⟨.inl rfl, _, Ent.refl, _, rfl, ?_⟩
          rw [kidsF, stm7 s hc148, hc164]
          simp [below, of_decide_eq_true hc148]
         ·
          skip
          refine AWP.skip ?_
          refine AWP.seq ?_
          refine AWP.region ?_
          refine AOps.step (Val.of hσ rfl rfl) rfl rfl rfl ?_
          refine AOps.step (Val.of hσ rfl rfl) rfl rfl rfl ?_
          refine AOps.forget [(2, _), (28, _), (26, _), (25, _), (7, _), (6, _), (5, _), (4, _), (3, _), (1, _), (0, _)] ⟨rfl, rfl, rfl, rfl, rfl, rfl, rfl, rfl, rfl, rfl, rfl, trivial⟩ ?_
          refine AOps.nil ?_
          refine AWP.ret ?_
          refine ⟨.inl rfl, _, Ent.refl, _, rfl, ?_⟩
          rw [kidsF, stm7 s hc148, hc164]
          simp
        ·
         skip
         refine AWP.seq ?_
         refine AWP.region ?_
         refine AOps.step (Val.of hσ rfl rfl) rfl rfl rfl ?_
         refine AOps.step (Val.of hσ rfl rfl) rfl rfl rfl ?_
         refine AOps.forget [(165, _), (28, _), (26, _), (25, _), (8, _), (7, _), (6, _), (5, _), (4, _), (3, _), (2, _), (1, _), (0, _)] ⟨rfl, rfl, rfl, rfl, rfl, rfl, rfl, rfl, rfl, rfl, rfl, rfl, rfl, trivial⟩ ?_
         refine AOps.nil ?_
         refine AWP.cond hσ rfl rfl (fun hc165 => ?_) (fun hc165 => ?_)
         ·
          skip
          refine AWP.seq ?_
          refine AWP.region ?_
          refine AOps.step (Val.of hσ rfl rfl) rfl rfl rfl ?_
          refine AOps.step (Val.of hσ rfl rfl) rfl rfl rfl ?_
          refine AOps.forget [(168, _), (28, _), (26, _), (25, _), (8, _), (7, _), (6, _), (5, _), (4, _), (3, _), (2, _), (1, _), (0, _)] ⟨rfl, rfl, rfl, rfl, rfl, rfl, rfl, rfl, rfl, rfl, rfl, rfl, rfl, trivial⟩ ?_
          refine AOps.gr 1 rfl rfl rfl (fun hx => AN.step hx rfl rfl rfl (Val.of hσ rfl rfl) rfl rfl ( AN.nil)) rfl rfl ?_
          first | refine AOps.step (Val.pickT hσ rfl rfl rfl rfl rfl) rfl rfl rfl ?_ | refine AOps.step (Val.pickF hσ rfl rfl rfl rfl rfl) rfl rfl rfl ?_ | refine AOps.step (Val.pickB hσ rfl rfl rfl rfl rfl) rfl rfl rfl ?_
          refine AOps.step (Val.of hσ rfl rfl) rfl rfl rfl ?_
          refine AOps.forget [(171, _), (28, _), (26, _), (25, _), (8, _), (7, _), (6, _), (5, _), (4, _), (3, _), (2, _), (1, _), (0, _)] ⟨rfl, rfl, rfl, rfl, rfl, rfl, rfl, rfl, rfl, rfl, rfl, rfl, rfl, trivial⟩ ?_
          refine AOps.gr 3 rfl rfl rfl (fun hx => AN.step hx rfl rfl rfl (Val.of hσ rfl rfl) rfl rfl ( AN.step hx rfl rfl rfl (Val.of hσ rfl rfl) rfl rfl ( AN.lone hσ hx rfl rfl rfl rfl (c171 h1 h2) (VAs.self rfl) rfl rfl rfl rfl rfl rfl rfl (B0 := 175000) rfl ( AN.nil)))) rfl rfl ?_
          first | refine AOps.step (Val.pickT hσ rfl rfl rfl rfl rfl) rfl rfl rfl ?_ | refine AOps.step (Val.pickF hσ rfl rfl rfl rfl rfl) rfl rfl rfl ?_ | refine AOps.step (Val.pickB hσ rfl rfl rfl rfl rfl) rfl rfl rfl ?_
          refine AOps.step (Val.of hσ rfl rfl) rfl rfl rfl ?_
          refine AOps.forget [(176, _), (28, _), (26, _), (25, _), (8, _), (7, _), (6, _), (5, _), (4, _), (3, _), (2, _), (1, _), (0, _)] ⟨rfl, rfl, rfl, rfl, rfl, rfl, rfl, rfl, rfl, rfl, rfl, rfl, rfl, trivial⟩ ?_
          refine AOps.gr 1 rfl rfl rfl (fun hx => AN.step hx rfl rfl rfl (Val.of hσ rfl rfl) rfl rfl ( AN.nil)) rfl rfl ?_
          first | refine AOps.step (Val.pickT hσ rfl rfl rfl rfl rfl) rfl rfl rfl ?_ | refine AOps.step (Val.pickF hσ rfl rfl rfl rfl rfl) rfl rfl rfl ?_ | refine AOps.step (Val.pickB hσ rfl rfl rfl rfl rfl) rfl rfl rfl ?_
          refine AOps.step (Val.of hσ rfl rfl) rfl rfl rfl ?_
          refine AOps.forget [(179, _), (28, _), (26, _), (25, _), (8, _), (7, _), (6, _), (5, _), (4, _), (3, _), (2, _), (1, _), (0, _)] ⟨rfl, rfl, rfl, rfl, rfl, rfl, rfl, rfl, rfl, rfl, rfl, rfl, rfl, trivial⟩ ?_
          refine AOps.gr 3 rfl rfl rfl (fun hx => AN.step hx rfl rfl rfl (Val.of hσ rfl rfl) rfl rfl ( AN.step hx rfl rfl rfl (Val.of hσ rfl rfl) rfl rfl ( AN.lone hσ hx rfl rfl rfl rfl (c125 h1 h2) (VAs.self rfl) rfl rfl rfl rfl rfl rfl rfl (B0 := 183000) rfl ( AN.nil)))) rfl rfl ?_
          first | refine AOps.step (Val.pickT hσ rfl rfl rfl rfl rfl) rfl rfl rfl ?_ | refine AOps.step (Val.pickF hσ rfl rfl rfl rfl rfl) rfl rfl rfl ?_ | refine AOps.step (Val.pickB hσ rfl rfl rfl rfl rfl) rfl rfl rfl ?_
          refine AOps.forget [(183, _), (28, _), (26, _), (25, _), (8, _), (7, _), (6, _), (5, _), (4, _), (3, _), (2, _), (1, _), (0, _)] ⟨rfl, rfl, rfl, rfl, rfl, rfl, rfl, rfl, rfl, rfl, rfl, rfl, rfl, trivial⟩ ?_
          refine AOps.nil ?_
          refine AWP.cond hσ rfl rfl (fun hc183 => ?_) (fun hc183 => ?_)
          ·
           skip
           refine AWP.region ?_
           refine AOps.step (Val.of hσ rfl rfl) rfl rfl rfl ?_
           refine AOps.nil ?_
           refine AWP.seq ?_
           refine AWP.region ?_
           refine AOps.step (Val.of hσ rfl rfl) rfl rfl rfl ?_
           refine AOps.step (Val.of hσ rfl rfl) rfl rfl rfl ?_
           refine AOps.forget [(2, _), (28, _), (26, _), (25, _), (7, _), (6, _), (5, _), (4, _), (3, _), (1, _), (0, _)] ⟨rfl, rfl, rfl, rfl, rfl, rfl, rfl, rfl, rfl, rfl, rfl, trivial⟩ ?_
           refine AOps.nil ?_
           refine AWP.ret ?_
           refine ⟨.inl rfl, _, Ent.refl, _, rfl, ?_⟩
           rw [kidsF, stm8 s hc165, hc183]
           simp [below, of_decide_eq_true hc165]
          ·
           skip
           refine AWP.skip ?_
           refine AWP.seq ?_
           refine AWP.region ?_
           refine AOps.step (Val.of hσ rfl rfl) rfl rfl rfl ?_
           refine AOps.step (Val.of hσ rfl rfl) rfl rfl rfl ?_
           refine AOps.forget [(2, _), (28, _), (26, _), (25, _), (7, _), (6, _), (5, _), (4, _), (3, _), (1, _), (0, _)] ⟨rfl, rfl, rfl, rfl, rfl, rfl, rfl, rfl, rfl, rfl, rfl, trivial⟩ ?_
           refine AOps.nil ?_
           refine AWP.ret ?_
           refine ⟨.inl rfl, _, Ent.refl, _, rfl, ?_⟩
           rw [kidsF, stm8 s hc165, hc183]
           simp
         ·
          skip
          refine AWP.skip ?_
          refine AWP.seq ?_
          refine AWP.region ?_
          refine AOps.step (Val.of hσ rfl rfl) rfl rfl rfl ?_
          refine AOps.step (Val.of hσ rfl rfl) rfl rfl rfl ?_
          refine AOps.forget [(2, _), (28, _), (26, _), (25, _), (7, _), (6, _), (5, _), (4, _), (3, _), (1, _), (0, _)] ⟨rfl, rfl, rfl, rfl, rfl, rfl, rfl, rfl, rfl, rfl, rfl, trivial⟩ ?_
          refine AOps.nil ?_
          refine AWP.ret ?_
          refine ⟨.inl rfl, _, Ent.refl, _, rfl, ?_⟩
          have hn : (decide (0 ≤ s.kind) && decide (s.kind ≤ 8)) = false := by
           have := of_decide_eq_false hc27
           have := of_decide_eq_false hc42
           have := of_decide_eq_false hc57
           have := of_decide_eq_false hc76
           have := of_decide_eq_false hc95
           have := of_decide_eq_false hc114
           have := of_decide_eq_false hc131
           have := of_decide_eq_false hc148
           have := of_decide_eq_false hc165
           rw [← Bool.not_eq_true]; intro h; simp only [Bool.and_eq_true, decide_eq_true_eq] at h; omega
          rw [kidsF, stmtB, show sB1 s = true by unfold sB1; rw [hn]; rfl]; rfl
end Go.Al
namespace Go.Al
open Go.Proofs
set_option linter.unusedVariables false
set_option linter.unusedSimpArgs false
set_option maxRecDepth 10000
inductive Tr where
  | node (s : Sm) (at_ : Int) (kids : List Tr)
mutual
def Tr.d : Tr → D
  | .node s a ks => .ptr [.int .i64 s.kind, .int .i64 s.var, .int .i64 s.event, .int .i64 s.sum.c, ints s.sum.xs, .int .i64 s.index.c, ints s.index.xs, tms s.facts, .int .i64 a, .slc 1 (Trs.d ks)] 0
def Trs.d : List Tr → List (List D)
  | [] => []
  | t :: r => [t.d] :: Trs.d r
end
theorem Trs.d_length : ∀ {ts : List Tr}, (Trs.d ts).length = ts.length
  | [] => rfl
  | t :: r => by simp [Trs.d, Trs.d_length]
theorem Trs.d_snoc : ∀ {ts : List Tr} {t : Tr}, Trs.d (ts ++ [t]) = Trs.d ts ++ [[t.d]]
  | [], t => rfl
  | u :: r, t => by simp [Trs.d, Trs.d_snoc]
def iterT (f : Nat → Option (Tr × Nat)) : Nat → Nat → Option (List Tr × Nat)
  | 0, k => some ([], k)
  | q + 1, k => match f k with
    | none => none
    | some (t, k') => (iterT f q k').map fun r => (t :: r.1, r.2)
def treeF : Nat → List Sm → Nat → Option (Tr × Nat)
  | 0, _, _ => none
  | n + 1, body, k => if body.length ≤ k then none else if kidsF (body.getD k default) < 0 then none else
      (iterT (treeF n body) (kidsF (body.getD k default)).toNat (k + 1)).map fun r => (.node (body.getD k default) k r.1, r.2)
theorem iterT_some {f : Nat → Option (Tr × Nat)} {q k k' : Nat} {t : Tr} (h : f k = some (t, k')) : iterT f (q + 1) k = (iterT f q k').map fun r => (t :: r.1, r.2) := by rw [iterT, h]
theorem iterT_none {f : Nat → Option (Tr × Nat)} {q k : Nat} (h : f k = none) : iterT f (q + 1) k = none := by rw [iterT, h]
theorem iterT_le {f : Nat → Option (Tr × Nat)} {N : Nat} (hf : ∀ k t k', f k = some (t, k') → k < k' ∧ k' ≤ N) : ∀ {q k ts k'}, iterT f q k = some (ts, k') → k ≤ N → k ≤ k' ∧ k' ≤ N
  | 0, k, ts, k', h, hk => by simp [iterT] at h; omega
  | q + 1, k, ts, k', h, hk => by
    unfold iterT at h
    cases hx : f k with
    | none => rw [hx] at h; cases h
    | some x =>
      obtain ⟨t, k1⟩ := x
      rw [hx] at h
      simp only [Option.map_eq_some_iff] at h
      obtain ⟨⟨ts1, k2⟩, h1, h2⟩ := h
      simp only [Prod.mk.injEq] at h2
      have h3 := hf k t k1 hx
      have h4 := iterT_le hf h1 h3.2
      omega
theorem treeF_le : ∀ {n body k t k'}, treeF n body k = some (t, k') → k < k' ∧ k' ≤ body.length
  | 0, _, _, _, _, h => by cases h
  | n + 1, body, k, t, k', h => by
    unfold treeF at h
    split at h
    · cases h
    · split at h
      · cases h
      · simp only [Option.map_eq_some_iff] at h
        obtain ⟨⟨ts1, k2⟩, h1, h2⟩ := h
        simp only [Prod.mk.injEq] at h2
        have := iterT_le (N := body.length) (fun k t k' h => treeF_le h) h1 (by omega)
        omega
abbrev tP (r : Option (Tr × Nat)) : D := match r with | some (t, _) => t.d | none => .nilp
abbrev tN (r : Option (Tr × Nat)) : Int := match r with | some (_, k) => k | none => 0
abbrev tB (r : Option (Tr × Nat)) : Bool := match r with | some _ => true | none => false
abbrev resT (r : Option (Tr × Nat)) : A := .tup [.c (.d (tP r)), eI (tN r), eB (tB r)]
theorem tB_true {r : Option (Tr × Nat)} (h : tB r = true) : ∃ t k, r = some (t, k) := by
  cases r with
  | none => cases h
  | some x => exact ⟨x.1, x.2, rfl⟩
theorem tB_false {r : Option (Tr × Nat)} (h : tB r = false) : r = none := by
  cases r with
  | none => rfl
  | some x => cases h
theorem kidsF_le (s : Sm) : kidsF s ≤ 2 := by
  unfold kidsF; split
  · exact (below_le _).2
  · decide

theorem c157s {L : Nat} (h1 : 4096 ≤ L) (h2 : L ≤ 1073741824) {body : List Sm} {n k : Nat} (hk : k ≤ body.length) (hn : body.length < n + 1 + k) (ih : ∀ k', k' ≤ body.length → body.length < n + k' → MC Try.prog L 157 [.c (.d (sms body)), eI k'] [] (Plain (resT (treeF n body k')))) : MC Try.prog L 157 [.c (.d (sms body)), eI k] [] (Plain (resT (treeF (n + 1) body k))) := by
 have hσ := SGok (nt := 58) h1 (Nat.le_trans h2 (by decide))
 refine MC.body hσ Try.func157 (by kernel_rfl) rfl rfl (Nat.le_of_ble_eq_true rfl) (fun hF => ?_)
 have hl : body.length ≤ L := by simpa [As.fact, A.fact, M.fact, D.fact, Ds.fact] using hF.1.1
 refine AWP.seq ?_
 refine AWP.region ?_
 refine AOps.step (Val.of hσ rfl rfl) rfl rfl rfl ?_
 refine AOps.step (Val.of hσ rfl rfl) rfl rfl rfl ?_
 refine AOps.step (Val.of hσ rfl rfl) rfl rfl rfl ?_
 refine AOps.nil ?_
 refine AWP.seq ?_
 refine AWP.seq ?_
 refine AWP.region ?_
 refine AOps.step (Val.of hσ rfl rfl) rfl rfl rfl ?_
 refine AOps.step (Val.of hσ rfl rfl) rfl rfl rfl ?_
 first | refine AOps.step (Val.lenD hσ rfl rfl rfl rfl rfl rfl rfl rfl) rfl rfl rfl ?_ | refine AOps.step (Val.of hσ rfl rfl) rfl rfl rfl ?_ | refine AOps.step (Val.vif hσ rfl rfl (by first | omega | (simp at *; omega))) rfl rfl rfl ?_
 refine AOps.step (Val.of hσ rfl rfl) rfl rfl rfl ?_
 refine AOps.forget [(15, _), (6, _), (5, _), (4, _), (0, _), (1, _)] ⟨rfl, rfl, rfl, rfl, rfl, rfl, trivial⟩ ?_
 refine AOps.nil ?_
 refine AWP.cond hσ rfl rfl (fun hc15 => ?_) (fun hc15 => ?_)
 ·
  try simp only [List.length_map, beq_iff_eq, decide_eq_true_eq, decide_eq_false_iff_not, Bool.not_eq_true', Bool.not_eq_false', Bool.not_true, Bool.not_false, Int.not_lt, Int.not_le] at hc15
  refine AWP.seq ?_
  refine AWP.region ?_
  refine AOps.step (Val.of hσ rfl rfl) rfl rfl rfl ?_
  refine AOps.step (Val.of hσ rfl rfl) rfl rfl rfl ?_
  refine AOps.step (Val.of hσ rfl rfl) rfl rfl rfl ?_
  refine AOps.nil ?_
  refine AWP.ret ?_
  refine ⟨.inl rfl, _, Ent.sel [] rfl rfl (e' := [(4, .c (.d .nilp)), (5, eI 0), (6, eB false)]) ⟨rfl, rfl, rfl, trivial⟩ rfl, _, rfl, ?_, rfl⟩
  rw [show treeF (n + 1) body k = none from if_pos (by omega)]
 ·
  try simp only [List.length_map, beq_iff_eq, decide_eq_true_eq, decide_eq_false_iff_not, Bool.not_eq_true', Bool.not_eq_false', Bool.not_true, Bool.not_false, Int.not_lt, Int.not_le] at hc15
  refine AWP.skip ?_
  refine AWP.seq ?_
  refine AWP.region ?_
  refine AOps.step (Val.of hσ rfl rfl) rfl rfl rfl ?_
  refine AOps.step (Val.of hσ rfl rfl) rfl rfl rfl ?_
  first | refine AOps.step (Val.indexD hσ rfl rfl rfl rfl rfl rfl rfl rfl (by first | omega | (simp at *; omega)) (idx_get (by first | omega | (simp at *; omega)) (by first | omega | (simp at *; omega)))) rfl rfl rfl ?_ | refine AOps.step (Val.vif hσ rfl rfl (by first | omega | (simp at *; omega))) rfl rfl rfl ?_
  refine AOps.step (Val.of hσ rfl rfl) rfl rfl rfl ?_
  refine AOps.forget [(19, _), (6, _), (5, _), (4, _), (0, _), (1, _)] ⟨rfl, rfl, rfl, rfl, rfl, rfl, trivial⟩ ?_
  refine AOps.lone hσ rfl rfl rfl rfl (c191 h1 h2) (VAs.self rfl) rfl rfl rfl rfl rfl (B0 := 21000) rfl ?_
  refine AOps.step (Val.of hσ rfl rfl) rfl rfl rfl ?_
  refine AOps.forget [(7, _), (6, _), (5, _), (4, _), (0, _), (1, _)] ⟨rfl, rfl, rfl, rfl, rfl, rfl, trivial⟩ ?_
  refine AOps.nil ?_
  refine AWP.seq ?_
  refine AWP.seq ?_
  refine AWP.region ?_
  refine AOps.step (Val.of hσ rfl rfl) rfl rfl rfl ?_
  refine AOps.step (Val.of hσ rfl rfl) rfl rfl rfl ?_
  refine AOps.nil ?_
  refine AWP.cond hσ rfl rfl (fun hc22 => ?_) (fun hc22 => ?_)
  ·
   try simp only [List.length_map, beq_iff_eq, decide_eq_true_eq, decide_eq_false_iff_not, Bool.not_eq_true', Bool.not_eq_false', Bool.not_true, Bool.not_false, Int.not_lt, Int.not_le] at hc22
   refine AWP.seq ?_
   refine AWP.region ?_
   refine AOps.step (Val.of hσ rfl rfl) rfl rfl rfl ?_
   refine AOps.step (Val.of hσ rfl rfl) rfl rfl rfl ?_
   refine AOps.step (Val.of hσ rfl rfl) rfl rfl rfl ?_
   refine AOps.nil ?_
   refine AWP.ret ?_
   refine ⟨.inl rfl, _, Ent.sel [] rfl rfl (e' := [(4, .c (.d .nilp)), (5, eI 0), (6, eB false)]) ⟨rfl, rfl, rfl, trivial⟩ rfl, _, rfl, ?_, rfl⟩
   rw [show treeF (n + 1) body k = none by unfold treeF; rw [if_neg (by omega)]; exact if_pos hc22]
  ·
   try simp only [List.length_map, beq_iff_eq, decide_eq_true_eq, decide_eq_false_iff_not, Bool.not_eq_true', Bool.not_eq_false', Bool.not_true, Bool.not_false, Int.not_lt, Int.not_le] at hc22
   refine AWP.skip ?_
   refine AWP.seq ?_
   refine AWP.region ?_
   refine AOps.step (Val.of hσ rfl rfl) rfl rfl rfl ?_
   refine AOps.step (Val.of hσ rfl rfl) rfl rfl rfl ?_
   first | refine AOps.step (Val.indexD hσ rfl rfl rfl rfl rfl rfl rfl rfl (by first | omega | (simp at *; omega)) (idx_get (by first | omega | (simp at *; omega)) (by first | omega | (simp at *; omega)))) rfl rfl rfl ?_ | refine AOps.step (Val.vif hσ rfl rfl (by first | omega | (simp at *; omega))) rfl rfl rfl ?_
   refine AOps.step (Val.of hσ rfl rfl) rfl rfl rfl ?_
   refine AOps.step (Val.of hσ rfl rfl) rfl rfl rfl ?_
   refine AOps.step (Val.of hσ rfl rfl) rfl rfl rfl ?_
   refine AOps.forget [(28, _), (21, _), (7, _), (6, _), (5, _), (4, _), (0, _), (1, _)] ⟨rfl, rfl, rfl, rfl, rfl, rfl, rfl, rfl, trivial⟩ ?_
   refine AOps.heap (HS.box hσ rfl rfl rfl rfl rfl rfl rfl) rfl ?_
   apply AOps.norm
   ·
    repeat' (first | exact q0 rfl | apply q1 rfl | exact q2 rfl | apply q3 rfl | exact q4 rfl | apply q5 rfl | exact q6 rfl | exact q7 rfl | exact q8)
   refine AOps.step (Val.of hσ rfl rfl) rfl rfl rfl ?_
   refine AOps.forget [(8, _), (21, _), (7, _), (6, _), (5, _), (4, _), (0, _), (1, _)] ⟨rfl, rfl, rfl, rfl, rfl, rfl, rfl, rfl, trivial⟩ ?_
   refine AOps.nil ?_
   refine AWP.seq ?_
   refine AWP.region ?_
   refine AOps.step (Val.of hσ rfl rfl) rfl rfl rfl ?_
   first | refine AOps.step (Val.fits64 hσ rfl rfl (by first | omega | (simp at *; omega)) (by first | omega | (simp at *; omega))) rfl rfl rfl ?_ | refine AOps.step (Val.vif hσ rfl rfl (by first | omega | (simp at *; omega))) rfl rfl rfl ?_
   refine AOps.step (Val.of hσ rfl rfl) rfl rfl rfl ?_
   refine AOps.forget [(1, _), (8, _), (21, _), (7, _), (6, _), (5, _), (4, _), (0, _)] ⟨rfl, rfl, rfl, rfl, rfl, rfl, rfl, rfl, trivial⟩ ?_
   refine AOps.nil ?_
   refine AWP.seq ?_
   refine AWP.block ?_
   refine AWP.loopP (X := Nat × Nat × List Tr) (fun x => ⟨[(0, .c (.d (sms body))), (1, eI x.2.1), (7, eI x.1), (8, .c (.pt 29 0 0))], [(29, .box [.d (.int .i64 (body.getD k default).kind), .d (.int .i64 (body.getD k default).var), .d (.int .i64 (body.getD k default).event), .d (.int .i64 (body.getD k default).sum.c), .d (ints (body.getD k default).sum.xs), .d (.int .i64 (body.getD k default).index.c), .d (ints (body.getD k default).index.xs), .d (tms (body.getD k default).facts), .d (.int .i64 k), .rs 700 0 x.2.2.length]), (700, .row false 1 (Trs.d x.2.2))]⟩) (fun x => x.2.1 ≤ body.length ∧ k < x.2.1 ∧ iterT (treeF n body) (kidsF (body.getD k default)).toNat (k + 1) = (iterT (treeF n body) x.1 x.2.1).map (fun r => (x.2.2 ++ r.1, r.2)) ∧ x.2.2.length + x.1 ≤ 2) (fun x => x.1) ((kidsF (body.getD k default)).toNat, k + 1, []) ((Ent.nameBox 29 700 1 false 9 rfl rfl rfl).trans (Ent.to ⟨rfl, rfl, congrArg (fun z => some (eI z)) (Int.toNat_of_nonneg hc22).symm, rfl, trivial⟩ rfl)) ?_ (fun x hi => ?_)
   ·
    exact ⟨(show k + 1 ≤ body.length by omega), Nat.lt_succ_self k, by simp, by have := kidsF_le (body.getD k default); show 0 + (kidsF (body.getD k default)).toNat ≤ 2; omega⟩
   refine AWP.seq ?_
   refine AWP.seq ?_
   refine AWP.region ?_
   refine AOps.step (Val.of hσ rfl rfl) rfl rfl rfl ?_
   refine AOps.step (Val.of hσ rfl rfl) rfl rfl rfl ?_
   refine AOps.nil ?_
   refine AWP.cond hσ rfl rfl (fun hc33 => ?_) (fun hc33 => ?_)
   ·
    try simp only [List.length_map, beq_iff_eq, decide_eq_true_eq, decide_eq_false_iff_not, Bool.not_eq_true', Bool.not_eq_false', Bool.not_true, Bool.not_false, Int.not_lt, Int.not_le] at hc33
    refine AWP.skip ?_
    refine AWP.seq ?_
    refine AWP.block ?_
    refine AWP.seq ?_
    refine AWP.region ?_
    refine AOps.step (Val.of hσ rfl rfl) rfl rfl rfl ?_
    refine AOps.step (Val.of hσ rfl rfl) rfl rfl rfl ?_
    refine AOps.plainD hσ rfl rfl rfl rfl (ih x.2.1 hi.1 (by omega)) (VAs.self rfl) rfl rfl rfl rfl (B0 := 40000) rfl rfl ?_
    refine AOps.step (Val.of hσ rfl rfl) rfl rfl rfl ?_
    refine AOps.step (Val.of hσ rfl rfl) rfl rfl rfl ?_
    refine AOps.step (Val.of hσ rfl rfl) rfl rfl rfl ?_
    refine AOps.step (Val.of hσ rfl rfl) rfl rfl rfl ?_
    refine AOps.step (Val.of hσ rfl rfl) rfl rfl rfl ?_
    refine AOps.step (Val.of hσ rfl rfl) rfl rfl rfl ?_
    refine AOps.step (Val.of hσ rfl rfl) rfl rfl rfl ?_
    refine AOps.forget [(11, _), (10, _), (9, _), (33, _), (32, _), (0, _), (1, _), (7, _), (8, _)] ⟨rfl, rfl, rfl, rfl, rfl, rfl, rfl, rfl, rfl, trivial⟩ ?_
    refine AOps.nil ?_
    refine AWP.seq ?_
    refine AWP.seq ?_
    refine AWP.region ?_
    refine AOps.step (Val.of hσ rfl rfl) rfl rfl rfl ?_
    refine AOps.step (Val.of hσ rfl rfl) rfl rfl rfl ?_
    refine AOps.forget [(44, _), (10, _), (9, _), (33, _), (32, _), (0, _), (1, _), (7, _), (8, _)] ⟨rfl, rfl, rfl, rfl, rfl, rfl, rfl, rfl, rfl, trivial⟩ ?_
    refine AOps.nil ?_
    refine AWP.cond hσ rfl rfl (fun hc44 => ?_) (fun hc44 => ?_)
    ·
     try simp only [List.length_map, beq_iff_eq, decide_eq_true_eq, decide_eq_false_iff_not, Bool.not_eq_true', Bool.not_eq_false', Bool.not_true, Bool.not_false, Int.not_lt, Int.not_le] at hc44
     refine AWP.seq ?_
     refine AWP.region ?_
     refine AOps.step (Val.of hσ rfl rfl) rfl rfl rfl ?_
     refine AOps.step (Val.of hσ rfl rfl) rfl rfl rfl ?_
     refine AOps.step (Val.of hσ rfl rfl) rfl rfl rfl ?_
     refine AOps.nil ?_
     refine AWP.ret ?_
     refine ⟨.inl rfl, _, Ent.sel [] rfl rfl (e' := [(4, .c (.d .nilp)), (5, eI 0), (6, eB false)]) ⟨rfl, rfl, rfl, trivial⟩ rfl, _, rfl, ?_, rfl⟩
     have e0 := tB_false hc44
     rw [Int.toNat_natCast] at hc22
     rw [show treeF (n + 1) body k = none by
      unfold treeF
      rw [if_neg (by omega), if_neg (by omega), hi.2.2.1]
      obtain ⟨q, hq⟩ : ∃ q, x.1 = q + 1 := ⟨x.1 - 1, by omega⟩
      rw [hq, iterT_none e0]; rfl]
    ·
     try simp only [List.length_map, beq_iff_eq, decide_eq_true_eq, decide_eq_false_iff_not, Bool.not_eq_true', Bool.not_eq_false', Bool.not_true, Bool.not_false, Int.not_lt, Int.not_le] at hc44
     refine AWP.skip ?_
     refine AWP.seq ?_
     refine AWP.region ?_
     obtain ⟨t1, k1, hr⟩ := tB_true hc44
     obtain ⟨s1, a1, ks1⟩ := t1
     rw [hr]
     refine AOps.step (Val.of hσ rfl rfl) rfl rfl rfl ?_
     refine AOps.step (Val.of hσ rfl rfl) rfl rfl rfl ?_
     refine AOps.step (Val.of hσ rfl rfl) rfl rfl rfl ?_
     refine AOps.step (Val.of hσ rfl rfl) rfl rfl rfl ?_
     refine AOps.step (Val.of hσ rfl rfl) rfl rfl rfl ?_
     refine AOps.step (Val.of hσ rfl rfl) rfl rfl rfl ?_
     refine AOps.forget [(50, _), (49, _), (45, _), (44, _), (10, _), (33, _), (32, _), (0, _), (1, _), (7, _), (8, _)] ⟨rfl, rfl, rfl, rfl, rfl, rfl, rfl, rfl, rfl, rfl, rfl, trivial⟩ ?_
     refine AOps.heap (HS.lit hσ rfl rfl rfl) rfl ?_
     apply AOps.norm
     ·
      repeat' (first | exact q0 rfl | apply q1 rfl | exact q2 rfl | apply q3 rfl | exact q4 rfl | apply q5 rfl | exact q6 rfl | exact q7 rfl | exact q8)
     refine AOps.forget [(51, _), (49, _), (45, _), (44, _), (10, _), (33, _), (32, _), (0, _), (1, _), (7, _), (8, _)] ⟨rfl, rfl, rfl, rfl, rfl, rfl, rfl, rfl, rfl, rfl, rfl, trivial⟩ ?_
     refine AOps.heap (HS.appCopy (own := false) hσ rfl rfl rfl rfl rfl rfl rfl rfl rfl rfl rfl rfl rfl rfl rfl rfl (.row rfl Trs.d_length.symm) (.whole rfl rfl (.inr ⟨rfl, rfl⟩)) (by simp) rfl (by rw [Trs.d_length]; show x.2.2.length + 1 ≤ L; omega) (by rw [Trs.d_length]; show (x.2.2.length + 1) * 8 ≤ _; omega) rfl (by rw [List.length_append, Trs.d_length])) rfl ?_
     apply AOps.norm
     ·
      repeat' (first | exact q0 rfl | apply q1 rfl | exact q2 rfl | apply q3 rfl | exact q4 rfl | apply q5 rfl | exact q6 rfl | exact q7 rfl | exact q8)
     refine AOps.step (Val.of hσ rfl rfl) rfl rfl rfl ?_
     refine AOps.step (Val.of hσ rfl rfl) rfl rfl rfl ?_
     refine AOps.forget [(54, _), (52, _), (44, _), (10, _), (33, _), (32, _), (0, _), (1, _), (7, _), (8, _)] ⟨rfl, rfl, rfl, rfl, rfl, rfl, rfl, rfl, rfl, rfl, trivial⟩ ?_
     refine AOps.heap (HS.storeBox hσ rfl rfl rfl rfl rfl rfl rfl rfl rfl rfl rfl) rfl ?_
     apply AOps.norm
     ·
      repeat' (first | exact q0 rfl | apply q1 rfl | exact q2 rfl | apply q3 rfl | exact q4 rfl | apply q5 rfl | exact q6 rfl | exact q7 rfl | exact q8)
     refine AOps.forget [(44, _), (10, _), (33, _), (32, _), (0, _), (1, _), (7, _), (8, _)] ⟨rfl, rfl, rfl, rfl, rfl, rfl, rfl, rfl, trivial⟩ ?_
     refine AOps.nil ?_
     refine AWP.region ?_
     refine AOps.step (Val.of hσ rfl rfl) rfl rfl rfl ?_
     refine AOps.step (Val.of hσ rfl rfl) rfl rfl rfl ?_
     refine AOps.forget [(1, _), (44, _), (33, _), (32, _), (0, _), (7, _), (8, _)] ⟨rfl, rfl, rfl, rfl, rfl, rfl, rfl, trivial⟩ ?_
     refine AOps.nil ?_
     refine AWP.region ?_
     refine AOps.step (Val.of hσ rfl rfl) rfl rfl rfl ?_
     first | refine AOps.step (Val.fits64 hσ rfl rfl (by first | omega | (simp at *; omega)) (by first | omega | (simp at *; omega))) rfl rfl rfl ?_ | refine AOps.step (Val.vif hσ rfl rfl (by first | omega | (simp at *; omega))) rfl rfl rfl ?_
     refine AOps.step (Val.of hσ rfl rfl) rfl rfl rfl ?_
     refine AOps.forget [(7, _), (1, _), (44, _), (33, _), (32, _), (0, _), (8, _)] ⟨rfl, rfl, rfl, rfl, rfl, rfl, rfl, trivial⟩ ?_
     refine AOps.nil ?_
     refine ⟨(x.1 - 1, k1, x.2.2 ++ [.node s1 a1 ks1]), ((Ent.sel [29, 52] (e' := [(0, _), (1, _), (7, _), (8, _)]) rfl rfl ⟨rfl, rfl, rfl, rfl, trivial⟩ rfl).trans (Ent.sub 52 700 rfl rfl rfl)).trans (Ent.to ⟨rfl, rfl, ?_, rfl, trivial⟩ ?_), ⟨(treeF_le hr).2, by have := (treeF_le hr).1; show k < k1; omega, ?_, ?_⟩, ?_⟩
     ·
      exact congrArg (fun z => some (eI z)) (by show (x.1 : Int) - 1 = (x.1 - 1 : Nat); omega)
     ·
      rw [Trs.d_snoc, List.length_append]; rfl
     ·
      rw [hi.2.2.1]
      obtain ⟨q, hq⟩ : ∃ q, x.1 = q + 1 := ⟨x.1 - 1, by omega⟩
      rw [hq, iterT_some hr]
      simp [Option.map_map, Function.comp_def]
     ·
      show (x.2.2 ++ [_]).length + (x.1 - 1) ≤ 2; simp; omega
     ·
      show x.1 - 1 < x.1; omega
   ·
    try simp only [List.length_map, beq_iff_eq, decide_eq_true_eq, decide_eq_false_iff_not, Bool.not_eq_true', Bool.not_eq_false', Bool.not_true, Bool.not_false, Int.not_lt, Int.not_le] at hc33
    refine AWP.exit ?_
    refine AWP.seq ?_
    refine AWP.region ?_
    refine AOps.step (Val.of hσ rfl rfl) rfl rfl rfl ?_
    refine AOps.step (Val.of hσ rfl rfl) rfl rfl rfl ?_
    refine AOps.step (Val.of hσ rfl rfl) rfl rfl rfl ?_
    refine AOps.step (Val.of hσ rfl rfl) rfl rfl rfl ?_
    refine AOps.step (Val.of hσ rfl rfl) rfl rfl rfl ?_
    refine AOps.forget [(6, _), (5, _), (4, _), (33, _), (32, _), (0, _), (1, _), (7, _), (8, _)] ⟨rfl, rfl, rfl, rfl, rfl, rfl, rfl, rfl, rfl, trivial⟩ ?_
    refine AOps.nil ?_
    refine AWP.ret ?_
    refine ⟨.inl rfl, _, ((Ent.to (e' := [(4, _), (5, _), (6, _)]) ⟨rfl, rfl, rfl, trivial⟩ rfl).trans (Ent.freeze (e' := [(4, _), (5, _), (6, _)]) 700 rfl (.cons rfl (.keep rfl) (.cons rfl (.keep rfl) (.cons rfl (.keep rfl) .nil))) (.cons rfl (.box (.cons (.keep rfl) (.cons (.keep rfl) (.cons (.keep rfl) (.cons (.keep rfl) (.cons (.keep rfl) (.cons (.keep rfl) (.cons (.keep rfl) (.cons (.keep rfl) (.cons (.keep rfl) (.cons (.row rfl Trs.d_length.symm) .nil))))))))))) (.skip .nil)))).trans (Ent.freeze (e' := [(4, _), (5, _), (6, _)]) 29 rfl (.cons rfl (.c (.box (cs := [.int .i64 (body.getD k default).kind, .int .i64 (body.getD k default).var, .int .i64 (body.getD k default).event, .int .i64 (body.getD k default).sum.c, ints (body.getD k default).sum.xs, .int .i64 (body.getD k default).index.c, ints (body.getD k default).index.xs, tms (body.getD k default).facts, .int .i64 k, .slc 1 (Trs.d x.2.2)]) rfl)) (.cons rfl (.keep rfl) (.cons rfl (.keep rfl) .nil))) (.skip .nil)), _, rfl, ?_, rfl⟩
    have hx : x.1 = 0 := by omega
    rw [Int.toNat_natCast] at hc22
    rw [show treeF (n + 1) body k = some (.node (body.getD k default) k x.2.2, x.2.1) by
     unfold treeF
     rw [if_neg (by omega), if_neg (by omega), hi.2.2.1, hx]; simp [iterT]]
    rfl
theorem c157 {L : Nat} (h1 : 4096 ≤ L) (h2 : L ≤ 1073741824) {body : List Sm} : ∀ {n k : Nat}, k ≤ body.length → body.length < n + k → MC Try.prog L 157 [.c (.d (sms body)), eI k] [] (Plain (resT (treeF n body k)))
 | 0, k, hk, hn => by omega
 | n + 1, k, hk, hn => c157s h1 h2 hk hn (fun k' hk' hn' => c157 h1 h2 hk' hn')
end Go.Al
namespace Go.Al
open Go.Proofs
set_option linter.unusedVariables false
set_option linter.unusedSimpArgs false
set_option maxRecDepth 10000
def toF (body : List Sm) : Option (Tr × Nat) := treeF (body.length + 1) body 0
def tOP (body : List Sm) : D := if (30 : Int) < body.length then .nilp else tP (toF body)
def tOB (body : List Sm) : Bool := if (30 : Int) < body.length then false else (tB (toF body) && decide (tN (toF body) = body.length))
def validP (p : Pm) : Bool := tOB p.body && (terms p.pre 6 && terms p.post 6)

theorem c112 {L : Nat} (h1 : 4096 ≤ L) (h2 : L ≤ 1073741824) {body : List Sm} : MC Try.prog L 112 [.c (.d (sms body))] [] (Plain (.tup [.c (.d (tOP body)), eB (tOB body)])) := by
 have hσ := SGok (nt := 24) h1 (Nat.le_trans h2 (by decide))
 refine MC.body hσ Try.func112 (by kernel_rfl) rfl rfl (Nat.le_of_ble_eq_true rfl) (fun hF => ?_)
 have hl : body.length ≤ L := by simpa [As.fact, A.fact, M.fact, D.fact, Ds.fact] using hF.1.1
 refine AWP.seq ?_
 refine AWP.region ?_
 refine AOps.step (Val.of hσ rfl rfl) rfl rfl rfl ?_
 refine AOps.step (Val.of hσ rfl rfl) rfl rfl rfl ?_
 refine AOps.nil ?_
 refine AWP.seq ?_
 refine AWP.seq ?_
 refine AWP.region ?_
 refine AOps.step (Val.of hσ rfl rfl) rfl rfl rfl ?_
 first | refine AOps.step (Val.lenD hσ rfl rfl rfl rfl rfl rfl rfl rfl) rfl rfl rfl ?_ | refine AOps.step (Val.of hσ rfl rfl) rfl rfl rfl ?_ | refine AOps.step (Val.vif hσ rfl rfl (by first | omega | (simp at *; omega))) rfl rfl rfl ?_
 refine AOps.step (Val.of hσ rfl rfl) rfl rfl rfl ?_
 refine AOps.forget [(9, _), (3, _), (2, _), (0, _)] ⟨rfl, rfl, rfl, rfl, trivial⟩ ?_
 refine AOps.nil ?_
 refine AWP.cond hσ rfl rfl (fun hc9 => ?_) (fun hc9 => ?_)
 ·
  try simp only [List.length_map, beq_iff_eq, decide_eq_true_eq, decide_eq_false_iff_not, Bool.not_eq_true', Bool.not_eq_false', Bool.not_true, Bool.not_false, Int.not_lt, Int.not_le] at hc9
  refine AWP.seq ?_
  refine AWP.region ?_
  refine AOps.step (Val.of hσ rfl rfl) rfl rfl rfl ?_
  refine AOps.step (Val.of hσ rfl rfl) rfl rfl rfl ?_
  refine AOps.nil ?_
  refine AWP.ret ?_
  refine ⟨.inl rfl, _, Ent.refl, _, rfl, ?_, rfl⟩
  rw [tOP, tOB, if_pos hc9, if_pos hc9]
 ·
  try simp only [List.length_map, beq_iff_eq, decide_eq_true_eq, decide_eq_false_iff_not, Bool.not_eq_true', Bool.not_eq_false', Bool.not_true, Bool.not_false, Int.not_lt, Int.not_le] at hc9
  refine AWP.skip ?_
  refine AWP.seq ?_
  refine AWP.region ?_
  refine AOps.step (Val.of hσ rfl rfl) rfl rfl rfl ?_
  refine AOps.reset [(11, _), (3, _), (2, _), (0, _)] [] ⟨rfl, rfl, rfl, rfl, trivial⟩ rfl ?_
  refine AOps.plainD hσ rfl rfl rfl rfl (c157 (n := body.length + 1) (k := 0) h1 h2 (Nat.zero_le _) (by omega)) (VAs.self rfl) rfl rfl rfl rfl (B0 := 13000) rfl rfl ?_
  refine AOps.step (Val.of hσ rfl rfl) rfl rfl rfl ?_
  refine AOps.step (Val.of hσ rfl rfl) rfl rfl rfl ?_
  refine AOps.step (Val.of hσ rfl rfl) rfl rfl rfl ?_
  refine AOps.step (Val.of hσ rfl rfl) rfl rfl rfl ?_
  refine AOps.step (Val.of hσ rfl rfl) rfl rfl rfl ?_
  refine AOps.step (Val.of hσ rfl rfl) rfl rfl rfl ?_
  refine AOps.step (Val.of hσ rfl rfl) rfl rfl rfl ?_
  refine AOps.forget [(6, _), (5, _), (4, _), (3, _), (2, _), (0, _)] ⟨rfl, rfl, rfl, rfl, rfl, rfl, trivial⟩ ?_
  refine AOps.nil ?_
  refine AWP.seq ?_
  refine AWP.region ?_
  refine AOps.step (Val.of hσ rfl rfl) rfl rfl rfl ?_
  refine AOps.step (Val.of hσ rfl rfl) rfl rfl rfl ?_
  refine AOps.step (Val.of hσ rfl rfl) rfl rfl rfl ?_
  refine AOps.reset [(18, _), (16, _), (5, _), (3, _), (2, _), (0, _)] [] ⟨rfl, rfl, rfl, rfl, rfl, rfl, trivial⟩ rfl ?_
  refine AOps.gr 4 rfl rfl rfl (fun hx => AN.step hx rfl rfl rfl (Val.of hσ rfl rfl) rfl rfl ( AN.step hx rfl rfl rfl (Val.of hσ rfl rfl) rfl rfl ( AN.step hx rfl rfl rfl (Val.lenD hσ rfl rfl rfl rfl rfl rfl rfl rfl) rfl rfl ( AN.step hx rfl rfl rfl (Val.of hσ rfl rfl) rfl rfl ( AN.nil))))) rfl rfl ?_
  first | refine AOps.step (Val.pickT hσ rfl rfl rfl rfl rfl) rfl rfl rfl ?_ | refine AOps.step (Val.pickF hσ rfl rfl rfl rfl rfl) rfl rfl rfl ?_ | refine AOps.step (Val.pickB hσ rfl rfl rfl rfl rfl) rfl rfl rfl ?_
  refine AOps.step (Val.of hσ rfl rfl) rfl rfl rfl ?_
  refine AOps.step (Val.of hσ rfl rfl) rfl rfl rfl ?_
  refine AOps.forget [(3, _), (2, _), (0, _)] ⟨rfl, rfl, rfl, trivial⟩ ?_
  refine AOps.nil ?_
  refine AWP.ret ?_
  refine ⟨.inl rfl, _, Ent.refl, _, rfl, ?_, rfl⟩
  rw [tOP, tOB, if_neg (by omega), if_neg (by omega), ← Bool.cond_false_right]; rfl
theorem c155 {L : Nat} (h1 : 4096 ≤ L) (h2 : L ≤ 1073741824) {body : List Sm} : MC Try.prog L 155 [.c (.d (sms body))] [] (Plain (eB (tOB body))) := by
 refine MC.alone ?_ rfl
 have hσ := SGok (nt := 11) h1 (Nat.le_trans h2 (by decide))
 refine MC.body hσ Try.func155 (by kernel_rfl) rfl rfl (Nat.le_of_ble_eq_true rfl) (fun hF => ?_)
 refine AWP.seq ?_
 refine AWP.region ?_
 refine AOps.step (Val.of hσ rfl rfl) rfl rfl rfl ?_
 refine AOps.nil ?_
 refine AWP.seq ?_
 refine AWP.region ?_
 refine AOps.step (Val.of hσ rfl rfl) rfl rfl rfl ?_
 refine AOps.reset [(6, _), (2, _)] [] ⟨rfl, rfl, trivial⟩ rfl ?_
 refine AOps.plainD hσ rfl rfl rfl rfl (c112 h1 h2) (VAs.self rfl) rfl rfl rfl rfl (B0 := 8000) rfl rfl ?_
 refine AOps.step (Val.of hσ rfl rfl) rfl rfl rfl ?_
 refine AOps.step (Val.of hσ rfl rfl) rfl rfl rfl ?_
 refine AOps.step (Val.of hσ rfl rfl) rfl rfl rfl ?_
 refine AOps.step (Val.of hσ rfl rfl) rfl rfl rfl ?_
 refine AOps.step (Val.of hσ rfl rfl) rfl rfl rfl ?_
 refine AOps.forget [(4, _), (2, _)] ⟨rfl, rfl, trivial⟩ ?_
 refine AOps.nil ?_
 refine AWP.seq ?_
 refine AWP.region ?_
 refine AOps.step (Val.of hσ rfl rfl) rfl rfl rfl ?_
 refine AOps.step (Val.of hσ rfl rfl) rfl rfl rfl ?_
 refine AOps.forget [(2, _)] ⟨rfl, trivial⟩ ?_
 refine AOps.nil ?_
 refine AWP.ret ?_
 refine ⟨.inl rfl, _, Ent.refl, _, rfl, ?_⟩
 first | rfl | skip
theorem c109 {L : Nat} (h1 : 4096 ≤ L) (h2 : L ≤ 1073741824) {p : Pm} : MC Try.prog L 109 [aPm p] [] (Plain (eB (validP p))) := by
 refine MC.alone ?_ rfl
 have hσ := SGok (nt := 16) h1 (Nat.le_trans h2 (by decide))
 refine MC.body hσ Try.func109 (by kernel_rfl) rfl rfl (Nat.le_of_ble_eq_true rfl) (fun hF => ?_)
 refine AWP.seq ?_
 refine AWP.region ?_
 refine AOps.heap (HS.box hσ rfl rfl rfl rfl rfl rfl rfl) rfl ?_
 refine AOps.step (Val.of hσ rfl rfl) rfl rfl rfl ?_
 refine AOps.nil ?_
 refine AWP.seq ?_
 refine AWP.region ?_
 refine AOps.step (Val.of hσ rfl rfl) rfl rfl rfl ?_
 refine AOps.step (Val.of hσ rfl rfl) rfl rfl rfl ?_
 refine AOps.forget [(4, _), (2, _), (1, _), (0, _)] ⟨rfl, rfl, rfl, rfl, trivial⟩ ?_
 refine AOps.lone hσ rfl rfl rfl rfl (c155 h1 h2) (VAs.self rfl) rfl rfl rfl rfl rfl (B0 := 6000) rfl ?_
 refine AOps.step (Val.of hσ rfl rfl) rfl rfl rfl ?_
 refine AOps.forget [(6, _), (2, _), (1, _), (0, _)] ⟨rfl, rfl, rfl, rfl, trivial⟩ ?_
 refine AOps.gr 3 rfl rfl rfl (fun hx => AN.step hx rfl rfl rfl (Val.of hσ rfl rfl) rfl rfl ( AN.step hx rfl rfl rfl (Val.of hσ rfl rfl) rfl rfl ( AN.lone hσ hx rfl rfl rfl rfl (c125 h1 h2) (VAs.self rfl) rfl rfl rfl rfl rfl rfl rfl (B0 := 10000) rfl ( AN.nil)))) rfl rfl ?_
 first | refine AOps.step (Val.pickT hσ rfl rfl rfl rfl rfl) rfl rfl rfl ?_ | refine AOps.step (Val.pickF hσ rfl rfl rfl rfl rfl) rfl rfl rfl ?_ | refine AOps.step (Val.pickB hσ rfl rfl rfl rfl rfl) rfl rfl rfl ?_
 refine AOps.step (Val.of hσ rfl rfl) rfl rfl rfl ?_
 refine AOps.forget [(11, _), (2, _), (1, _), (0, _)] ⟨rfl, rfl, rfl, rfl, trivial⟩ ?_
 refine AOps.gr 3 rfl rfl rfl (fun hx => AN.step hx rfl rfl rfl (Val.of hσ rfl rfl) rfl rfl ( AN.step hx rfl rfl rfl (Val.of hσ rfl rfl) rfl rfl ( AN.lone hσ hx rfl rfl rfl rfl (c125 h1 h2) (VAs.self rfl) rfl rfl rfl rfl rfl rfl rfl (B0 := 15000) rfl ( AN.nil)))) rfl rfl ?_
 first | refine AOps.step (Val.pickT hσ rfl rfl rfl rfl rfl) rfl rfl rfl ?_ | refine AOps.step (Val.pickF hσ rfl rfl rfl rfl rfl) rfl rfl rfl ?_ | refine AOps.step (Val.pickB hσ rfl rfl rfl rfl rfl) rfl rfl rfl ?_
 refine AOps.step (Val.of hσ rfl rfl) rfl rfl rfl ?_
 refine AOps.forget [(2, _), (0, _)] ⟨rfl, rfl, trivial⟩ ?_
 refine AOps.nil ?_
 refine AWP.ret ?_
 refine ⟨.inl rfl, _, Ent.refl, _, rfl, ?_⟩
 rw [Bool.cond_false_right, Bool.cond_false_right, Bool.and_assoc]; rfl
theorem c110 {L : Nat} (h1 : 4096 ≤ L) (h2 : L ≤ 1073741824) {s : Sx} : MC Try.prog L 110 [aSx s] [] (Plain (eB (stB s))) := by
 refine MC.alone ?_ rfl
 have hσ := SGok (nt := 23) h1 (Nat.le_trans h2 (by decide))
 refine MC.body hσ Try.func110 (by kernel_rfl) rfl rfl (Nat.le_of_ble_eq_true rfl) (fun hF => ?_)
 refine AWP.seq ?_
 refine AWP.region ?_
 refine AOps.heap (HS.box hσ rfl rfl rfl rfl rfl rfl rfl) rfl ?_
 refine AOps.step (Val.of hσ rfl rfl) rfl rfl rfl ?_
 refine AOps.nil ?_
 refine AWP.seq ?_
 refine AWP.region ?_
 refine AOps.step (Val.of hσ rfl rfl) rfl rfl rfl ?_
 refine AOps.step (Val.of hσ rfl rfl) rfl rfl rfl ?_
 first | refine AOps.step (Val.lenD hσ rfl rfl rfl rfl rfl rfl rfl rfl) rfl rfl rfl ?_ | refine AOps.step (Val.of hσ rfl rfl) rfl rfl rfl ?_ | refine AOps.step (Val.vif hσ rfl rfl (by first | omega | (simp at *; omega))) rfl rfl rfl ?_
 refine AOps.step (Val.of hσ rfl rfl) rfl rfl rfl ?_
 refine AOps.step (Val.of hσ rfl rfl) rfl rfl rfl ?_
 refine AOps.forget [(7, _), (2, _), (1, _), (0, _)] ⟨rfl, rfl, rfl, rfl, trivial⟩ ?_
 refine AOps.gr 4 rfl rfl rfl (fun hx => AN.step hx rfl rfl rfl (Val.of hσ rfl rfl) rfl rfl ( AN.step hx rfl rfl rfl (Val.of hσ rfl rfl) rfl rfl ( AN.step hx rfl rfl rfl (Val.lenD hσ rfl rfl rfl rfl rfl rfl rfl rfl) rfl rfl ( AN.step hx rfl rfl rfl (Val.of hσ rfl rfl) rfl rfl ( AN.nil))))) rfl rfl ?_
 first | refine AOps.step (Val.pickT hσ rfl rfl rfl rfl rfl) rfl rfl rfl ?_ | refine AOps.step (Val.pickF hσ rfl rfl rfl rfl rfl) rfl rfl rfl ?_ | refine AOps.step (Val.pickB hσ rfl rfl rfl rfl rfl) rfl rfl rfl ?_
 refine AOps.step (Val.of hσ rfl rfl) rfl rfl rfl ?_
 refine AOps.forget [(13, _), (2, _), (1, _), (0, _)] ⟨rfl, rfl, rfl, rfl, trivial⟩ ?_
 refine AOps.gr 3 rfl rfl rfl (fun hx => AN.step hx rfl rfl rfl (Val.of hσ rfl rfl) rfl rfl ( AN.step hx rfl rfl rfl (Val.of hσ rfl rfl) rfl rfl ( AN.lone hσ hx rfl rfl rfl rfl (c156 h1 h2) (VAs.self rfl) rfl rfl rfl rfl rfl rfl rfl (B0 := 17000) rfl ( AN.nil)))) rfl rfl ?_
 first | refine AOps.step (Val.pickT hσ rfl rfl rfl rfl rfl) rfl rfl rfl ?_ | refine AOps.step (Val.pickF hσ rfl rfl rfl rfl rfl) rfl rfl rfl ?_ | refine AOps.step (Val.pickB hσ rfl rfl rfl rfl rfl) rfl rfl rfl ?_
 refine AOps.step (Val.of hσ rfl rfl) rfl rfl rfl ?_
 refine AOps.forget [(18, _), (2, _), (1, _), (0, _)] ⟨rfl, rfl, rfl, rfl, trivial⟩ ?_
 refine AOps.gr 3 rfl rfl rfl (fun hx => AN.step hx rfl rfl rfl (Val.of hσ rfl rfl) rfl rfl ( AN.step hx rfl rfl rfl (Val.of hσ rfl rfl) rfl rfl ( AN.lone hσ hx rfl rfl rfl rfl (c156 h1 h2) (VAs.self rfl) rfl rfl rfl rfl rfl rfl rfl (B0 := 22000) rfl ( AN.nil)))) rfl rfl ?_
 first | refine AOps.step (Val.pickT hσ rfl rfl rfl rfl rfl) rfl rfl rfl ?_ | refine AOps.step (Val.pickF hσ rfl rfl rfl rfl rfl) rfl rfl rfl ?_ | refine AOps.step (Val.pickB hσ rfl rfl rfl rfl rfl) rfl rfl rfl ?_
 refine AOps.step (Val.of hσ rfl rfl) rfl rfl rfl ?_
 refine AOps.forget [(2, _), (0, _)] ⟨rfl, rfl, trivial⟩ ?_
 refine AOps.nil ?_
 refine AWP.ret ?_
 refine ⟨.inl rfl, _, Ent.refl, _, rfl, ?_⟩
 exact congrArg eB (show (bif bif bif decide ((s.vars.length : Int) = 4) then decide ((s.cells.length : Int) = 8) else false then s.vars.all big else false then s.cells.all big else false) = stB s by unfold stB numsB; cases s.vars.all big <;> cases s.cells.all big <;> simp)
theorem c113 {L : Nat} (h1 : 4096 ≤ L) (h2 : L ≤ 1073741824) {v c : List Int} : MC Try.prog L 113 [.agg [.d (ints v), .d (ints c)]] [] (Rows (.agg [.rs 0 0 v.length, .rs 1 0 c.length]) [nrow v, nrow c]) := by
 refine MC.rows ?_
 have hσ := SGok (nt := 10) h1 (Nat.le_trans h2 (by decide))
 refine MC.body hσ Try.func113 (by kernel_rfl) rfl rfl (Nat.le_of_ble_eq_true rfl) (fun hF => ?_)
 refine AWP.seq ?_
 refine AWP.region ?_
 refine AOps.heap (HS.box hσ rfl rfl rfl rfl rfl rfl rfl) rfl ?_
 refine AOps.heap (HS.alloc hσ rfl rfl rfl rfl rfl) rfl ?_
 refine AOps.nil ?_
 refine AWP.seq ?_
 refine AWP.drawR hσ _ [_, _, _, _, _, _, _, _] [⟨[], 0, 0, none⟩, ⟨[0], 0, 0, none⟩, ⟨[0, 1], 0, 0, some 0⟩, ⟨[], 0, 1, none⟩, ⟨[3], 0, 1, none⟩, ⟨[0, 1, 2, 3, 4], 0, 0, some 1⟩, ⟨[0, 1, 2, 3, 4, 5], 2, 2, none⟩, ⟨[0, 1, 2, 3, 4, 5, 6], 0, 0, some 2⟩] [2, 5, 7] [_, _, _, _] rfl rfl (by decide) (by decide) (by kernel_rfl) (And.intro (Val.of hσ rfl rfl) (And.intro (Val.of hσ rfl rfl) (And.intro (Eff.rows hσ (B0 := 6000) rfl rfl rfl rfl (c158 h1 h2) (VAs.self rfl) rfl rfl rfl rfl rfl) (And.intro (And.intro (Val.of hσ rfl rfl) (Val.of hσ rfl rfl)) (And.intro (And.intro (Val.of hσ rfl rfl) (Val.of hσ rfl rfl)) (And.intro (Eff.rows hσ (B0 := 9000) rfl rfl rfl rfl (c158 h1 h2) (VAs.self rfl) rfl rfl rfl rfl rfl) (And.intro (Val.of hσ rfl rfl) (And.intro (Eff.storeBox hσ rfl rfl rfl rfl rfl rfl rfl rfl rfl rfl rfl rfl rfl) trivial)))))))) ?_
 refine AWP.ret ?_
 refine ⟨.inl rfl, _, Ent.refl, _, rfl, [6000, 9000], by decide, rfl, rfl, rfl⟩
structure RS where
  vars : List Int
  cells : List Int
  events : List Int
  fuel : Int
  steps : Int
  out : Int
abbrev rbox (e : Nat) (r : RS) : B := .box [.rs 1 0 4, .rs 2 0 8, .rs e 0 r.events.length, .d (.int .i64 r.fuel), .d (.int .i64 r.steps), .d (.int .i64 r.out)]
abbrev rH (e : Nat) (r : RS) : List (Nat × B) := [(0, rbox e r), (1, nrow r.vars), (2, nrow r.cells), (e, nrow r.events)]
def stepR (r : RS) : Bool × RS := if r.steps = r.fuel then (false, { r with out := 1 }) else (true, { r with steps := r.steps + 1 })

theorem c159 {L : Nat} (h1 : 4096 ≤ L) (h2 : L ≤ 1073741824) {r : RS} (hs : 0 ≤ r.steps) (hs2 : r.steps ≤ 1073741824) : MC Try.prog L 159 [.c (.pt 0 0 0)] (rH 3 r) (Outs (eB (stepR r).1) (rH 3 (stepR r).2)) := by
 refine MC.shift 500 rfl ?_
 have hσ := SgOk.withIns (js := [500, 501, 502, 503]) (SGok (nt := 22) h1 (Nat.le_trans h2 (by decide)))
 refine MC.bodyH hσ Try.func159 (by kernel_rfl) rfl rfl rfl (Nat.le_of_ble_eq_true rfl) (fun hF => ?_)
 apply AWP.norm
 ·
  repeat' (first | exact q0 rfl | apply q1 rfl | exact q2 rfl | apply q3 rfl | exact q4 rfl | apply q5 rfl | exact q6 rfl | exact q7 rfl | exact q8)
 refine AWP.seq ?_
 refine AWP.region ?_
 refine AOps.step (Val.of hσ rfl rfl) rfl rfl rfl ?_
 refine AOps.nil ?_
 refine AWP.seq ?_
 refine AWP.seq ?_
 refine AWP.drawR hσ _ [_, _, _, _, _, _, _, _, _] [⟨[], 0, 0, none⟩, ⟨[0], 0, 0, none⟩, ⟨[0, 1], 0, 0, none⟩, ⟨[0, 1, 2], 0, 0, none⟩, ⟨[], 0, 0, none⟩, ⟨[4], 0, 0, none⟩, ⟨[4, 5], 0, 0, none⟩, ⟨[4, 5, 6], 0, 0, none⟩, ⟨[0, 1, 2, 3, 4, 5, 6, 7], 0, 0, none⟩] [] [_] rfl rfl (by decide) (by decide) (by kernel_rfl) (And.intro (Val.of hσ rfl rfl) (And.intro (Val.of hσ rfl rfl) (And.intro (Val.of hσ rfl rfl) (And.intro (Val.of hσ rfl rfl) (And.intro (Val.of hσ rfl rfl) (And.intro (Val.of hσ rfl rfl) (And.intro (Val.of hσ rfl rfl) (And.intro (Val.of hσ rfl rfl) (And.intro (Val.of hσ rfl rfl) trivial))))))))) ?_
 refine AWP.forget [(11, _), (2, _), (0, _)] ⟨rfl, rfl, rfl, trivial⟩ ?_
 apply AWP.norm
 ·
  repeat' (first | exact q0 rfl | apply q1 rfl | exact q2 rfl | apply q3 rfl | exact q4 rfl | apply q5 rfl | exact q6 rfl | exact q7 rfl | exact q8)
 refine AWP.cond hσ rfl rfl (fun hc11 => ?_) (fun hc11 => ?_)
 ·
  try simp only [List.length_map, beq_iff_eq, decide_eq_true_eq, decide_eq_false_iff_not, Bool.not_eq_true', Bool.not_eq_false', Bool.not_true, Bool.not_false, Int.not_lt, Int.not_le] at hc11
  refine AWP.seq ?_
  refine AWP.region ?_
  refine AOps.step (Val.of hσ rfl rfl) rfl rfl rfl ?_
  refine AOps.step (Val.of hσ rfl rfl) rfl rfl rfl ?_
  refine AOps.step (Val.of hσ rfl rfl) rfl rfl rfl ?_
  refine AOps.forget [(14, _), (2, _), (0, _)] ⟨rfl, rfl, rfl, trivial⟩ ?_
  refine AOps.heap (HS.storeBox hσ rfl rfl rfl rfl rfl rfl rfl rfl rfl rfl rfl) rfl ?_
  apply AOps.norm
  ·
   repeat' (first | exact q0 rfl | apply q1 rfl | exact q2 rfl | apply q3 rfl | exact q4 rfl | apply q5 rfl | exact q6 rfl | exact q7 rfl | exact q8)
  refine AOps.nil ?_
  refine AWP.seq ?_
  refine AWP.region ?_
  refine AOps.step (Val.of hσ rfl rfl) rfl rfl rfl ?_
  refine AOps.nil ?_
  refine AWP.ret ?_
  refine ⟨.inl rfl, _, Ent.sel [500, 501, 502, 503] rfl rfl (e' := [(2, _)]) ⟨rfl, trivial⟩ rfl, _, rfl, ?_, ?_⟩
  ·
   rw [stepR, if_pos hc11]; rfl
  ·
   rw [stepR, if_pos hc11]; rfl
 ·
  try simp only [List.length_map, beq_iff_eq, decide_eq_true_eq, decide_eq_false_iff_not, Bool.not_eq_true', Bool.not_eq_false', Bool.not_true, Bool.not_false, Int.not_lt, Int.not_le] at hc11
  refine AWP.skip ?_
  refine AWP.seq ?_
  refine AWP.region ?_
  refine AOps.step (Val.of hσ rfl rfl) rfl rfl rfl ?_
  refine AOps.step (Val.of hσ rfl rfl) rfl rfl rfl ?_
  refine AOps.step (Val.of hσ rfl rfl) rfl rfl rfl ?_
  refine AOps.step (Val.of hσ rfl rfl) rfl rfl rfl ?_
  first | refine AOps.step (Val.fits64 hσ rfl rfl (by first | omega | (simp at *; omega)) (by first | omega | (simp at *; omega))) rfl rfl rfl ?_ | refine AOps.step (Val.vif hσ rfl rfl (by first | omega | (simp at *; omega))) rfl rfl rfl ?_
  refine AOps.step (Val.of hσ rfl rfl) rfl rfl rfl ?_
  refine AOps.step (Val.of hσ rfl rfl) rfl rfl rfl ?_
  refine AOps.forget [(21, _), (19, _), (2, _), (0, _)] ⟨rfl, rfl, rfl, rfl, trivial⟩ ?_
  refine AOps.heap (HS.storeBox hσ rfl rfl rfl rfl rfl rfl rfl rfl rfl rfl rfl) rfl ?_
  apply AOps.norm
  ·
   repeat' (first | exact q0 rfl | apply q1 rfl | exact q2 rfl | apply q3 rfl | exact q4 rfl | apply q5 rfl | exact q6 rfl | exact q7 rfl | exact q8)
  refine AOps.forget [(2, _), (0, _)] ⟨rfl, rfl, trivial⟩ ?_
  refine AOps.nil ?_
  refine AWP.seq ?_
  refine AWP.region ?_
  refine AOps.step (Val.of hσ rfl rfl) rfl rfl rfl ?_
  refine AOps.nil ?_
  refine AWP.ret ?_
  refine ⟨.inl rfl, _, Ent.sel [500, 501, 502, 503] rfl rfl (e' := [(2, _)]) ⟨rfl, trivial⟩ rfl, _, rfl, ?_, ?_⟩
  ·
   rw [stepR, if_neg hc11]; rfl
  ·
   rw [stepR, if_neg hc11]; rfl
theorem c161 {L : Nat} (h1 : 4096 ≤ L) (h2 : L ≤ 1073741824) {r : RS} {x : Int} : MC Try.prog L 161 [.c (.pt 0 0 0), eI x] (rH 3 r) (Outs (eB false) (rH 3 { r with out := x })) := by
 refine MC.shift 500 rfl ?_
 have hσ := SgOk.withIns (js := [500, 501, 502, 503]) (SGok (nt := 9) h1 (Nat.le_trans h2 (by decide)))
 refine MC.bodyH hσ Try.func161 (by kernel_rfl) rfl rfl rfl (Nat.le_of_ble_eq_true rfl) (fun hF => ?_)
 apply AWP.norm
 ·
  repeat' (first | exact q0 rfl | apply q1 rfl | exact q2 rfl | apply q3 rfl | exact q4 rfl | apply q5 rfl | exact q6 rfl | exact q7 rfl | exact q8)
 refine AWP.seq ?_
 refine AWP.region ?_
 refine AOps.step (Val.of hσ rfl rfl) rfl rfl rfl ?_
 refine AOps.nil ?_
 refine AWP.seq ?_
 refine AWP.region ?_
 refine AOps.step (Val.of hσ rfl rfl) rfl rfl rfl ?_
 refine AOps.step (Val.of hσ rfl rfl) rfl rfl rfl ?_
 refine AOps.step (Val.of hσ rfl rfl) rfl rfl rfl ?_
 refine AOps.step (Val.of hσ rfl rfl) rfl rfl rfl ?_
 refine AOps.forget [(8, _), (6, _), (4, _)] ⟨rfl, rfl, rfl, trivial⟩ ?_
 refine AOps.heap (HS.storeBox hσ rfl rfl rfl rfl rfl rfl rfl rfl rfl rfl rfl) rfl ?_
 apply AOps.norm
 ·
  repeat' (first | exact q0 rfl | apply q1 rfl | exact q2 rfl | apply q3 rfl | exact q4 rfl | apply q5 rfl | exact q6 rfl | exact q7 rfl | exact q8)
 refine AOps.forget [(4, _)] ⟨rfl, trivial⟩ ?_
 refine AOps.nil ?_
 refine AWP.seq ?_
 refine AWP.region ?_
 refine AOps.step (Val.of hσ rfl rfl) rfl rfl rfl ?_
 refine AOps.nil ?_
 refine AWP.ret ?_
 refine ⟨.inl rfl, _, Ent.sel [500, 501, 502, 503] rfl rfl (e' := [(4, _)]) ⟨rfl, trivial⟩ rfl, _, rfl, ?_, ?_⟩
 ·
  rfl
 ·
  rfl
end Go.Al
