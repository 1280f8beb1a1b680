/- Contracts of the functions that copy, compare, mark and measure. -/
import Derived.Test.YtnepkogijffmjaaProg
import Derived.Test.YtnepkogijffmjaaC
/- The table of the types that the functions of this seat use, and its proof. -/
namespace Go.Al
open Go.Proofs
def tt : List (Nat × TI) := [
  (2, ⟨4, false, 0, 1, 8, [.int .i64 0], []⟩),
  (3, ⟨4, false, 0, 1, 8, [.int .i64 0], []⟩),
  (4, ⟨5, false, 0, 1, 1, [.bool false], []⟩),
  (22, ⟨1, false, 60, 1, 24, [.nils], []⟩),
  (23, ⟨1, false, 78, 1, 24, [.nils], []⟩),
  (24, ⟨1, false, 63, 1, 24, [.nils], []⟩),
  (26, ⟨3, true, 0, 4, 96, [.nils, .nils, .nils, .nils], [(0, 1), (1, 1), (2, 1), (3, 1)]⟩),
  (28, ⟨1, false, 73, 1, 24, [.nils], []⟩),
  (29, ⟨1, false, 76, 1, 24, [.nils], []⟩),
  (30, ⟨1, false, 68, 1, 24, [.nils], []⟩),
  (32, ⟨3, true, 0, 4, 96, [.nils, .nils, .nils, .nils], [(0, 1), (1, 1), (2, 1), (3, 1)]⟩),
  (58, ⟨1, false, 2, 1, 24, [.nils], []⟩),
  (60, ⟨3, true, 0, 2, 32, [.int .i64 0, .nils], [(0, 1), (1, 1)]⟩),
  (63, ⟨3, true, 0, 2, 32, [.int .i64 0, .nils], [(0, 1), (1, 1)]⟩),
  (68, ⟨3, true, 0, 2, 32, [.int .i64 0, .nils], [(0, 1), (1, 1)]⟩),
  (73, ⟨3, true, 0, 2, 32, [.int .i64 0, .nils], [(0, 1), (1, 1)]⟩),
  (76, ⟨3, true, 0, 2, 16, [.int .i64 0, .int .i64 0], [(0, 1), (1, 1)]⟩),
  (78, ⟨3, true, 0, 2, 16, [.int .i64 0, .int .i64 0], [(0, 1), (1, 1)]⟩),
  (90, ⟨1, false, 4, 1, 24, [.nils], []⟩)
]
theorem tt2 : TIok Try.prog 2 ⟨4, false, 0, 1, 8, [.int .i64 0], []⟩ := ⟨by kernel_rfl, by kernel_rfl, by kernel_rfl, by kernel_rfl, by kernel_rfl, by kernel_rfl, by kernel_rfl⟩
theorem tt3 : TIok Try.prog 3 ⟨4, false, 0, 1, 8, [.int .i64 0], []⟩ := ⟨by kernel_rfl, by kernel_rfl, by kernel_rfl, by kernel_rfl, by kernel_rfl, by kernel_rfl, by kernel_rfl⟩
theorem tt4 : TIok Try.prog 4 ⟨5, false, 0, 1, 1, [.bool false], []⟩ := ⟨by kernel_rfl, by kernel_rfl, by kernel_rfl, by kernel_rfl, by kernel_rfl, by kernel_rfl, by kernel_rfl⟩
theorem tt22 : TIok Try.prog 22 ⟨1, false, 60, 1, 24, [.nils], []⟩ := ⟨by kernel_rfl, by kernel_rfl, by kernel_rfl, by kernel_rfl, by kernel_rfl, by kernel_rfl, by kernel_rfl⟩
theorem tt23 : TIok Try.prog 23 ⟨1, false, 78, 1, 24, [.nils], []⟩ := ⟨by kernel_rfl, by kernel_rfl, by kernel_rfl, by kernel_rfl, by kernel_rfl, by kernel_rfl, by kernel_rfl⟩
theorem tt24 : TIok Try.prog 24 ⟨1, false, 63, 1, 24, [.nils], []⟩ := ⟨by kernel_rfl, by kernel_rfl, by kernel_rfl, by kernel_rfl, by kernel_rfl, by kernel_rfl, by kernel_rfl⟩
theorem tt26 : TIok Try.prog 26 ⟨3, true, 0, 4, 96, [.nils, .nils, .nils, .nils], [(0, 1), (1, 1), (2, 1), (3, 1)]⟩ := ⟨by kernel_rfl, by kernel_rfl, by kernel_rfl, by kernel_rfl, by kernel_rfl, by kernel_rfl, by kernel_rfl⟩
theorem tt28 : TIok Try.prog 28 ⟨1, false, 73, 1, 24, [.nils], []⟩ := ⟨by kernel_rfl, by kernel_rfl, by kernel_rfl, by kernel_rfl, by kernel_rfl, by kernel_rfl, by kernel_rfl⟩
theorem tt29 : TIok Try.prog 29 ⟨1, false, 76, 1, 24, [.nils], []⟩ := ⟨by kernel_rfl, by kernel_rfl, by kernel_rfl, by kernel_rfl, by kernel_rfl, by kernel_rfl, by kernel_rfl⟩
theorem tt30 : TIok Try.prog 30 ⟨1, false, 68, 1, 24, [.nils], []⟩ := ⟨by kernel_rfl, by kernel_rfl, by kernel_rfl, by kernel_rfl, by kernel_rfl, by kernel_rfl, by kernel_rfl⟩
theorem tt32 : TIok Try.prog 32 ⟨3, true, 0, 4, 96, [.nils, .nils, .nils, .nils], [(0, 1), (1, 1), (2, 1), (3, 1)]⟩ := ⟨by kernel_rfl, by kernel_rfl, by kernel_rfl, by kernel_rfl, by kernel_rfl, by kernel_rfl, by kernel_rfl⟩
theorem tt58 : TIok Try.prog 58 ⟨1, false, 2, 1, 24, [.nils], []⟩ := ⟨by kernel_rfl, by kernel_rfl, by kernel_rfl, by kernel_rfl, by kernel_rfl, by kernel_rfl, by kernel_rfl⟩
theorem tt60 : TIok Try.prog 60 ⟨3, true, 0, 2, 32, [.int .i64 0, .nils], [(0, 1), (1, 1)]⟩ := ⟨by kernel_rfl, by kernel_rfl, by kernel_rfl, by kernel_rfl, by kernel_rfl, by kernel_rfl, by kernel_rfl⟩
theorem tt63 : TIok Try.prog 63 ⟨3, true, 0, 2, 32, [.int .i64 0, .nils], [(0, 1), (1, 1)]⟩ := ⟨by kernel_rfl, by kernel_rfl, by kernel_rfl, by kernel_rfl, by kernel_rfl, by kernel_rfl, by kernel_rfl⟩
theorem tt68 : TIok Try.prog 68 ⟨3, true, 0, 2, 32, [.int .i64 0, .nils], [(0, 1), (1, 1)]⟩ := ⟨by kernel_rfl, by kernel_rfl, by kernel_rfl, by kernel_rfl, by kernel_rfl, by kernel_rfl, by kernel_rfl⟩
theorem tt73 : TIok Try.prog 73 ⟨3, true, 0, 2, 32, [.int .i64 0, .nils], [(0, 1), (1, 1)]⟩ := ⟨by kernel_rfl, by kernel_rfl, by kernel_rfl, by kernel_rfl, by kernel_rfl, by kernel_rfl, by kernel_rfl⟩
theorem tt76 : TIok Try.prog 76 ⟨3, true, 0, 2, 16, [.int .i64 0, .int .i64 0], [(0, 1), (1, 1)]⟩ := ⟨by kernel_rfl, by kernel_rfl, by kernel_rfl, by kernel_rfl, by kernel_rfl, by kernel_rfl, by kernel_rfl⟩
theorem tt78 : TIok Try.prog 78 ⟨3, true, 0, 2, 16, [.int .i64 0, .int .i64 0], [(0, 1), (1, 1)]⟩ := ⟨by kernel_rfl, by kernel_rfl, by kernel_rfl, by kernel_rfl, by kernel_rfl, by kernel_rfl, by kernel_rfl⟩
theorem tt90 : TIok Try.prog 90 ⟨1, false, 4, 1, 24, [.nils], []⟩ := ⟨by kernel_rfl, by kernel_rfl, by kernel_rfl, by kernel_rfl, by kernel_rfl, by kernel_rfl, by kernel_rfl⟩
theorem tt_ok : TTok Try.prog tt := ⟨tt2, tt3, tt4, tt22, tt23, tt24, tt26, tt28, tt29, tt30, tt32, tt58, tt60, tt63, tt68, tt73, tt76, tt78, tt90, trivial⟩
theorem tt_plain : TTplain tt = true := by kernel_rfl
theorem tt_mix : Try.prog.follows .mixedOrders = true := by kernel_rfl
end Go.Al
namespace Go.Al
open Go.Proofs
set_option linter.unusedVariables false
theorem q0 {H : List (Nat × B)} (h : H = []) : HN H [] := .nil h
theorem q1 {H r r' : List (Nat × B)} {k : Nat} {b b' : B} (h : H = (k, b) :: r) (hb : BN b b') (hr : HN r r') : HN H ((k, b') :: r') := .cons h hb hr
theorem q2 {b : B} {own : Bool} {sz : Nat} {xs : List (List D)} (h : b = .row own sz xs) : BN b (.row own sz xs) := .row h
theorem q3 {b : B} {ms ms' : List M} (h : b = .box ms) (hm : MN ms ms') : BN b (.box ms') := .box h hm
theorem q4 {ms : List M} (h : ms = []) : MN ms [] := .nil h
theorem q5 {ms r r' : List M} {x x' : M} (h : ms = x :: r) (hx : XN x x') (hr : MN r r') : MN ms (x' :: r') := .cons h hx hr
theorem q6 {x : M} {v : D} (h : x = .d v) : XN x (.d v) := .d h
theorem q7 {x : M} {l a b : Nat} (h : x = .rs l a b) : XN x (.rs l a b) := .rs h
theorem q8 {x : M} : XN x x := .self
noncomputable abbrev SG (L nt : Nat) : Sg := ⟨Try.prog, tt, L, nt, []⟩
theorem SGok {L nt} (h1 : 4096 ≤ L) (h2 : L ≤ 9223372036854775807) : SgOk (SG L nt) := ⟨tt_ok, tt_plain, h1, h2, tt_mix⟩
abbrev eI (n : Int) : A := .c (.d (.int .i64 n))
abbrev eB (b : Bool) : A := .c (.d (.bool b))
abbrev ints (xs : List Int) : D := .slc 1 (xs.map fun n => [.int .i64 n])
structure Tm where
  c : Int
  xs : List Int
  deriving Inhabited
abbrev Tm.cells (t : Tm) : List D := [.int .i64 t.c, ints t.xs]
abbrev ptr (cs : List D) : A := .c (.d (.ptr cs 0))
def num (x : Int) : Bool := decide (-1000000 ≤ x) && decide (x ≤ 1000000)
def Tm.ok (t : Tm) : Bool := !(bif (bif !num t.c then true else decide ((10 : Int) < t.xs.length)) then true else bif decide ((0 : Int) < t.xs.length) then decide (t.xs.getD ((t.xs.length : Int) - 1).toNat default = 0) else false) && t.xs.all num
theorem all_of {α : Type} {p : α → Bool} {xs : List α} (h : ∀ j (hj : j < xs.length), p xs[j] = true) : xs.all p = true := by
  rw [List.all_eq_true]; intro x hx
  obtain ⟨j, hj, rfl⟩ := List.mem_iff_getElem.1 hx
  exact h j hj
theorem all_not {α : Type} {p : α → Bool} {xs : List α} (j : Nat) (hj : j < xs.length) (h : p xs[j] = false) : xs.all p = false := by
  rw [List.all_eq_false]; exact ⟨xs[j], List.getElem_mem _, by simp [h]⟩
theorem getD_lt {α : Type} [Inhabited α] {xs : List α} {j : Nat} (hj : j < xs.length) : xs.getD j default = xs[j] := by simp [hj]
set_option linter.unusedSimpArgs false
set_option maxRecDepth 10000

theorem c84 {L : Nat} (h1 : 4096 ≤ L) (h2 : L ≤ 1073741824) {x lo hi : Int} : MC Try.prog L 35 [eI x, eI lo, eI hi] [] (Plain (eB (decide (lo ≤ x) && decide (x ≤ hi)))) := by
 refine MC.alone ?_ rfl
 have hσ := SGok (nt := 15) h1 (Nat.le_trans h2 (by decide))
 refine MC.body hσ Try.func35 (by kernel_rfl) rfl rfl (Nat.le_of_ble_eq_true rfl) (fun hF => ?_)
 refine AWP.seq ?_
 refine AWP.region ?_
 refine AOps.step (Val.of hσ rfl rfl) rfl rfl rfl ?_
 refine AOps.nil ?_
 refine AWP.seq ?_
 refine AWP.region ?_
 refine AOps.step (Val.of hσ rfl rfl) rfl rfl rfl ?_
 refine AOps.step (Val.of hσ rfl rfl) rfl rfl rfl ?_
 refine AOps.step (Val.of hσ rfl rfl) rfl rfl rfl ?_
 refine AOps.step (Val.of hσ rfl rfl) rfl rfl rfl ?_
 refine AOps.gr 3 rfl rfl rfl (fun hx => AN.step hx rfl rfl rfl (Val.of hσ rfl rfl) rfl rfl ( AN.step hx rfl rfl rfl (Val.of hσ rfl rfl) rfl rfl ( AN.step hx rfl rfl rfl (Val.of hσ rfl rfl) rfl rfl ( AN.nil)))) rfl rfl ?_
 first | refine AOps.step (Val.pickT hσ rfl rfl rfl rfl rfl) rfl rfl rfl ?_ | refine AOps.step (Val.pickF hσ rfl rfl rfl rfl rfl) rfl rfl rfl ?_ | refine AOps.step (Val.pickB hσ rfl rfl rfl rfl rfl) rfl rfl rfl ?_
 refine AOps.step (Val.of hσ rfl rfl) rfl rfl rfl ?_
 refine AOps.nil ?_
 refine AWP.ret ?_
 refine ⟨.inl rfl, _, Ent.refl, _, rfl, ?_⟩
 rw [Bool.cond_false_right]
theorem c165 {L : Nat} (h1 : 4096 ≤ L) (h2 : L ≤ 1073741824) {x : Int} : MC Try.prog L 63 [eI x] [] (Plain (eB (num x))) := by
 refine MC.alone ?_ rfl
 have hσ := SGok (nt := 5) h1 (Nat.le_trans h2 (by decide))
 refine MC.body hσ Try.func63 (by kernel_rfl) rfl rfl (Nat.le_of_ble_eq_true rfl) (fun hF => ?_)
 refine AWP.seq ?_
 refine AWP.region ?_
 refine AOps.step (Val.of hσ rfl rfl) rfl rfl rfl ?_
 refine AOps.nil ?_
 refine AWP.seq ?_
 refine AWP.region ?_
 refine AOps.step (Val.of hσ rfl rfl) rfl rfl rfl ?_
 refine AOps.lone hσ rfl rfl rfl rfl (c84 h1 h2) (VAs.self rfl) rfl rfl rfl rfl rfl (B0 := 5000) rfl ?_
 refine AOps.step (Val.of hσ rfl rfl) rfl rfl rfl ?_
 refine AOps.nil ?_
 refine AWP.ret ?_
 refine ⟨.inl rfl, _, Ent.refl, _, rfl, ?_⟩
 first | rfl | skip
theorem c136 {L : Nat} (h1 : 4096 ≤ L) (h2 : L ≤ 1073741824) {t : Tm} : MC Try.prog L 60 [ptr t.cells] [] (Plain (eB t.ok)) := by
 refine MC.alone ?_ rfl
 have hσ := SGok (nt := 49) h1 (Nat.le_trans h2 (by decide))
 refine MC.body hσ Try.func60 (by kernel_rfl) rfl rfl (Nat.le_of_ble_eq_true rfl) (fun hF => ?_)
 have hl : t.xs.length ≤ L := by simpa [As.fact, A.fact, M.fact, D.fact, Ds.fact] using hF.1.2.1.1
 refine AWP.seq ?_
 refine AWP.region ?_
 refine AOps.step (Val.of hσ rfl rfl) rfl rfl rfl ?_
 refine AOps.nil ?_
 refine AWP.seq ?_
 refine AWP.region ?_
 refine AOps.step (Val.of hσ rfl rfl) rfl rfl rfl ?_
 refine AOps.step (Val.of hσ rfl rfl) rfl rfl rfl ?_
 refine AOps.step (Val.of hσ rfl rfl) rfl rfl rfl ?_
 refine AOps.step (Val.of hσ rfl rfl) rfl rfl rfl ?_
 first | refine AOps.step (Val.lenD hσ rfl rfl rfl rfl rfl rfl rfl rfl) rfl rfl rfl ?_ | refine AOps.step (Val.of hσ rfl rfl) rfl rfl rfl ?_ | refine AOps.step (Val.vif hσ rfl rfl (by first | omega | (simp at *; omega))) rfl rfl rfl ?_
 refine AOps.step (Val.of hσ rfl rfl) rfl rfl rfl ?_
 refine AOps.nil ?_
 refine AWP.seq ?_
 refine AWP.seq ?_
 refine AWP.region ?_
 refine AOps.step (Val.of hσ rfl rfl) rfl rfl rfl ?_
 refine AOps.step (Val.of hσ rfl rfl) rfl rfl rfl ?_
 refine AOps.step (Val.of hσ rfl rfl) rfl rfl rfl ?_
 refine AOps.step (Val.of hσ rfl rfl) rfl rfl rfl ?_
 refine AOps.lone hσ rfl rfl rfl rfl (c165 h1 h2) (VAs.self rfl) rfl rfl rfl rfl rfl (B0 := 15000) rfl ?_
 refine AOps.step (Val.of hσ rfl rfl) rfl rfl rfl ?_
 refine AOps.step (Val.of hσ rfl rfl) rfl rfl rfl ?_
 refine AOps.gr 2 rfl rfl rfl (fun hx => AN.step hx rfl rfl rfl (Val.of hσ rfl rfl) rfl rfl ( AN.step hx rfl rfl rfl (Val.of hσ rfl rfl) rfl rfl ( AN.nil))) rfl rfl ?_
 first | refine AOps.step (Val.pickF hσ rfl rfl rfl rfl rfl) rfl rfl rfl ?_ | refine AOps.step (Val.pickB hσ rfl rfl rfl rfl rfl) rfl rfl rfl ?_ | refine AOps.step (Val.pickT hσ rfl rfl rfl rfl rfl) rfl rfl rfl ?_
 refine AOps.step (Val.of hσ rfl rfl) rfl rfl rfl ?_
 refine AOps.gr 13 rfl rfl rfl (fun hx => AN.step hx rfl rfl rfl (Val.of hσ rfl rfl) rfl rfl ( AN.step hx rfl rfl rfl (Val.of hσ rfl rfl) rfl rfl ( AN.step hx rfl rfl rfl (Val.of hσ rfl rfl) rfl rfl ( AN.grp 9 rfl rfl rfl rfl (fun hx' => AN.step hx' rfl rfl rfl (Val.of hσ rfl rfl) rfl rfl ( AN.step hx' rfl rfl rfl (Val.of hσ rfl rfl) rfl rfl ( AN.step hx' rfl rfl rfl (Val.of hσ rfl rfl) rfl rfl ( AN.step hx' rfl rfl rfl (Val.of hσ rfl rfl) rfl rfl ( AN.step hx' rfl rfl rfl (Val.of hσ rfl rfl) rfl rfl ( AN.step hx' rfl rfl rfl (Val.fits64 hσ rfl rfl (by first | omega | (simp at *; omega)) (by first | omega | (simp at *; omega))) rfl rfl ( AN.step hx' rfl rfl rfl (Val.indexD hσ rfl rfl rfl rfl rfl rfl rfl rfl (by first | omega | (simp at *; omega)) (idx_get (by first | omega | (simp at *; omega)) (by first | omega | (simp at *; omega)))) rfl rfl ( AN.step hx' rfl rfl rfl (Val.of hσ rfl rfl) rfl rfl ( AN.step hx' rfl rfl rfl (Val.of hσ rfl rfl) rfl rfl ( AN.nil)))))))))) rfl rfl ( AN.step hx rfl rfl rfl (Val.pickT hσ rfl rfl rfl rfl rfl) rfl rfl ( AN.nil)))))) rfl rfl ?_
 first | refine AOps.step (Val.pickF hσ rfl rfl rfl rfl rfl) rfl rfl rfl ?_ | refine AOps.step (Val.pickB hσ rfl rfl rfl rfl rfl) rfl rfl rfl ?_ | refine AOps.step (Val.pickT hσ rfl rfl rfl rfl rfl) rfl rfl rfl ?_
 refine AOps.nil ?_
 refine AWP.cond hσ rfl rfl (fun hc34 => ?_) (fun hc34 => ?_)
 ·
  try simp only [List.length_map, beq_iff_eq, decide_eq_true_eq, decide_eq_false_iff_not, Bool.not_eq_true', Bool.not_eq_false', Bool.not_true, Bool.not_false, Int.not_lt, Int.not_le] at hc34
  refine AWP.seq ?_
  refine AWP.region ?_
  refine AOps.step (Val.of hσ rfl rfl) rfl rfl rfl ?_
  refine AOps.nil ?_
  refine AWP.ret ?_
  refine ⟨.inl rfl, _, Ent.refl, _, rfl, ?_⟩
  simp only [Tm.ok, hc34, Bool.not_true, Bool.false_and]
 ·
  try simp only [List.length_map, beq_iff_eq, decide_eq_true_eq, decide_eq_false_iff_not, Bool.not_eq_true', Bool.not_eq_false', Bool.not_true, Bool.not_false, Int.not_lt, Int.not_le] at hc34
  refine AWP.skip ?_
  refine AWP.seq ?_
  refine AWP.seq ?_
  refine AWP.region ?_
  refine AOps.step (Val.of hσ rfl rfl) rfl rfl rfl ?_
  refine AOps.nil ?_
  refine AWP.block ?_
  refine AWP.loopP (X := Nat) (fun i => ⟨[(0, ptr t.cells), (3, eI t.xs.length), (4, eI i)], []⟩) (fun i => i ≤ t.xs.length ∧ ∀ j (h : j < t.xs.length), j < i → num t.xs[j] = true) (fun i => t.xs.length - i) 0 (Ent.env ⟨rfl, rfl, rfl, trivial⟩) ?_ (fun i hi => ?_)
  ·
   exact ⟨Nat.zero_le _, fun j h hj => absurd hj (Nat.not_lt_zero j)⟩
  refine AWP.seq ?_
  refine AWP.seq ?_
  refine AWP.region ?_
  refine AOps.step (Val.of hσ rfl rfl) rfl rfl rfl ?_
  refine AOps.step (Val.of hσ rfl rfl) rfl rfl rfl ?_
  refine AOps.step (Val.of hσ rfl rfl) rfl rfl rfl ?_
  refine AOps.nil ?_
  refine AWP.cond hσ rfl rfl (fun hc37 => ?_) (fun hc37 => ?_)
  ·
   try simp only [List.length_map, beq_iff_eq, decide_eq_true_eq, decide_eq_false_iff_not, Bool.not_eq_true', Bool.not_eq_false', Bool.not_true, Bool.not_false, Int.not_lt, Int.not_le] at hc37
   refine AWP.skip ?_
   refine AWP.seq ?_
   refine AWP.block ?_
   refine AWP.seq ?_
   refine AWP.region ?_
   refine AOps.step (Val.of hσ rfl rfl) rfl rfl rfl ?_
   refine AOps.step (Val.of hσ rfl rfl) rfl rfl rfl ?_
   refine AOps.step (Val.of hσ rfl rfl) rfl rfl rfl ?_
   refine AOps.step (Val.of hσ rfl rfl) rfl rfl rfl ?_
   refine AOps.step (Val.of hσ rfl rfl) rfl rfl rfl ?_
   first | refine AOps.step (Val.indexD hσ rfl rfl rfl rfl rfl rfl rfl rfl (by first | omega | (simp at *; omega)) (idx_get (by first | omega | (simp at *; omega)) (by first | omega | (simp at *; omega)))) rfl rfl rfl ?_ | refine AOps.step (Val.vif hσ rfl rfl (by first | omega | (simp at *; omega))) rfl rfl rfl ?_
   refine AOps.step (Val.of hσ rfl rfl) rfl rfl rfl ?_
   refine AOps.lone hσ rfl rfl rfl rfl (c165 h1 h2) (VAs.self rfl) rfl rfl rfl rfl rfl (B0 := 48000) rfl ?_
   refine AOps.step (Val.of hσ rfl rfl) rfl rfl rfl ?_
   refine AOps.nil ?_
   refine AWP.cond hσ rfl rfl (fun hc48 => ?_) (fun hc48 => ?_)
   ·
    try simp only [List.length_map, beq_iff_eq, decide_eq_true_eq, decide_eq_false_iff_not, Bool.not_eq_true', Bool.not_eq_false', Bool.not_true, Bool.not_false, Int.not_lt, Int.not_le] at hc48
    refine AWP.seq ?_
    refine AWP.region ?_
    refine AOps.step (Val.of hσ rfl rfl) rfl rfl rfl ?_
    refine AOps.nil ?_
    refine AWP.ret ?_
    refine ⟨.inl rfl, _, Ent.refl, _, rfl, ?_⟩
    rw [Int.toNat_natCast, getD_lt (by omega)] at hc48
    simp only [Tm.ok, all_not i (by omega) hc48, Bool.and_false]
   ·
    try simp only [List.length_map, beq_iff_eq, decide_eq_true_eq, decide_eq_false_iff_not, Bool.not_eq_true', Bool.not_eq_false', Bool.not_true, Bool.not_false, Int.not_lt, Int.not_le] at hc48
    refine AWP.skip ?_
    refine AWP.region ?_
    refine AOps.step (Val.of hσ rfl rfl) rfl rfl rfl ?_
    first | refine AOps.step (Val.fits64 hσ rfl rfl (by first | omega | (simp at *; omega)) (by first | omega | (simp at *; omega))) rfl rfl rfl ?_ | refine AOps.step (Val.vif hσ rfl rfl (by first | omega | (simp at *; omega))) rfl rfl rfl ?_
    refine AOps.step (Val.of hσ rfl rfl) rfl rfl rfl ?_
    refine AOps.nil ?_
    refine ⟨i + 1, Ent.env ⟨rfl, rfl, rfl, trivial⟩, ⟨by omega, fun j h hj => ?_⟩, by omega⟩
    by_cases e : j = i
    ·
     subst e; rw [Int.toNat_natCast, getD_lt h] at hc48; exact hc48
    ·
     exact hi.2 j h (by omega)
  ·
   try simp only [List.length_map, beq_iff_eq, decide_eq_true_eq, decide_eq_false_iff_not, Bool.not_eq_true', Bool.not_eq_false', Bool.not_true, Bool.not_false, Int.not_lt, Int.not_le] at hc37
   refine AWP.exit ?_
   refine AWP.seq ?_
   refine AWP.region ?_
   refine AOps.step (Val.of hσ rfl rfl) rfl rfl rfl ?_
   refine AOps.nil ?_
   refine AWP.ret ?_
   refine ⟨.inl rfl, _, Ent.refl, _, rfl, ?_⟩
   simp only [Tm.ok, hc34, Bool.not_false, Bool.true_and]
   rw [all_of (fun j hj => hi.2 j hj (by omega))]
end Go.Al
namespace Go.Al
open Go.Proofs
set_option linter.unusedVariables false
set_option linter.unusedSimpArgs false
set_option maxRecDepth 10000
abbrev nrow (xs : List Int) : B := .row true 1 (xs.map fun n => [.int .i64 n])
abbrev aints (xs : List Int) : A := .c (.d (ints xs))
theorem c151 {L : Nat} (h1 : 4096 ≤ L) (h2 : L ≤ 1073741824) {xs : List Int} : MC Try.prog L 90 [aints xs] [] (Rows (.c (.rs 0 0 xs.length)) [nrow xs]) := by
 refine MC.rows ?_
 have hσ := SGok (nt := 6) h1 (Nat.le_trans h2 (by decide))
 refine MC.body hσ Try.func90 (by kernel_rfl) rfl rfl (Nat.le_of_ble_eq_true rfl) (fun hF => ?_)
 have hl : xs.length ≤ L := by simpa [As.fact, A.fact, M.fact, D.fact, Ds.fact] using hF.1.1
 refine ?_
 refine AWP.seq ?_
 refine AWP.region ?_
 refine AOps.step (Val.of hσ rfl rfl) rfl rfl rfl ?_
 refine AOps.nil ?_
 refine AWP.seq ?_
 refine AWP.region ?_
 refine AOps.heap (HS.lit hσ rfl rfl rfl) rfl ?_
 refine AOps.step (Val.of hσ rfl rfl) rfl rfl rfl ?_
 refine AOps.heap (HS.appCopy (own := true) hσ rfl rfl rfl rfl rfl rfl rfl rfl rfl rfl rfl rfl rfl rfl rfl rfl (.row rfl rfl) (.slc (.inr (Scal.map (fun _ => rfl)))) (by simp) rfl (by first | omega | (dsimp only [List.length_map, List.length_cons, List.length_nil]; omega) | (simp at *; omega) | (simp; omega)) (by first | omega | (dsimp only [List.length_map, List.length_cons, List.length_nil]; omega) | (simp at *; omega) | (simp; omega)) rfl rfl) rfl ?_
 refine AOps.step (Val.of hσ rfl rfl) rfl rfl rfl ?_
 refine AOps.nil ?_
 refine AWP.ret ?_
 refine ⟨.inl rfl, _, Ent.refl, _, rfl, [5], by decide, rfl, ?_, ?_⟩
 ·
  simp [A.lab, M.lab]
 ·
  rfl
theorem c158 {L : Nat} (h1 : 4096 ≤ L) (h2 : L ≤ 1073741824) {xs : List Int} : MC Try.prog L 89 [aints xs] [] (Rows (.c (.rs 0 0 xs.length)) [nrow xs]) := by
 refine MC.rows ?_
 have hσ := SGok (nt := 6) h1 (Nat.le_trans h2 (by decide))
 refine MC.body hσ Try.func89 (by kernel_rfl) rfl rfl (Nat.le_of_ble_eq_true rfl) (fun hF => ?_)
 have hl : xs.length ≤ L := by simpa [As.fact, A.fact, M.fact, D.fact, Ds.fact] using hF.1.1
 refine ?_
 refine AWP.seq ?_
 refine AWP.region ?_
 refine AOps.step (Val.of hσ rfl rfl) rfl rfl rfl ?_
 refine AOps.nil ?_
 refine AWP.seq ?_
 refine AWP.region ?_
 refine AOps.heap (HS.lit hσ rfl rfl rfl) rfl ?_
 refine AOps.step (Val.of hσ rfl rfl) rfl rfl rfl ?_
 refine AOps.heap (HS.appCopy (own := true) hσ rfl rfl rfl rfl rfl rfl rfl rfl rfl rfl rfl rfl rfl rfl rfl rfl (.row rfl rfl) (.slc (.inr (Scal.map (fun _ => rfl)))) (by simp) rfl (by first | omega | (dsimp only [List.length_map, List.length_cons, List.length_nil]; omega) | (simp at *; omega) | (simp; omega)) (by first | omega | (dsimp only [List.length_map, List.length_cons, List.length_nil]; omega) | (simp at *; omega) | (simp; omega)) rfl rfl) rfl ?_
 refine AOps.step (Val.of hσ rfl rfl) rfl rfl rfl ?_
 refine AOps.nil ?_
 refine AWP.ret ?_
 refine ⟨.inl rfl, _, Ent.refl, _, rfl, [5], by decide, rfl, ?_, ?_⟩
 ·
  simp [A.lab, M.lab]
 ·
  rfl
theorem c61 {L : Nat} (h1 : 4096 ≤ L) (h2 : L ≤ 1073741824) {xs : List Int} : MC Try.prog L 65 [aints xs] [] (Rows (.c (.rs 0 0 xs.length)) [nrow xs]) := by
 refine MC.rows ?_
 have hσ := SGok (nt := 22) h1 (Nat.le_trans h2 (by decide))
 refine MC.body hσ Try.func65 (by kernel_rfl) rfl rfl (Nat.le_of_ble_eq_true rfl) (fun hF => ?_)
 have hl : xs.length ≤ L := by simpa [As.fact, A.fact, M.fact, D.fact, Ds.fact] using hF.1.1
 refine AWP.seq ?_
 refine AWP.region ?_
 refine AOps.step (Val.of hσ rfl rfl) rfl rfl rfl ?_
 refine AOps.nil ?_
 refine AWP.seq ?_
 refine AWP.region ?_
 refine AOps.step (Val.of hσ rfl rfl) rfl rfl rfl ?_
 first | refine AOps.step (Val.lenD hσ rfl rfl rfl rfl rfl rfl rfl rfl) rfl rfl rfl ?_ | refine AOps.step (Val.of hσ rfl rfl) rfl rfl rfl ?_ | refine AOps.step (Val.vif hσ rfl rfl (by first | omega | (simp at *; omega))) rfl rfl rfl ?_
 refine AOps.heap (HS.make hσ rfl rfl rfl rfl rfl rfl rfl rfl rfl (by first | omega | (simp at *; omega)) (by first | omega | (simp at *; omega)) (by first | omega | (simp at *; omega)) (by first | omega | (dsimp only; omega) | (simp at *; omega)) (by first | omega | (simp at *; omega)) rfl rfl rfl) rfl ?_
 refine AOps.step (Val.of hσ rfl rfl) rfl rfl rfl ?_
 refine AOps.nil ?_
 refine AWP.seq ?_
 refine AWP.seq ?_
 refine AWP.region ?_
 refine AOps.step (Val.of hσ rfl rfl) rfl rfl rfl ?_
 refine AOps.nil ?_
 refine AWP.block ?_
 refine AWP.loopP (X := Nat × List Int) (fun x => ⟨[(0, aints xs), (3, .c (.rs 7 0 xs.length)), (4, eI x.1)], [(7, nrow x.2)]⟩) (fun x => x.1 ≤ xs.length ∧ x.2.length = xs.length ∧ ∀ j, j < x.1 → x.2[j]? = xs[j]?) (fun x => xs.length - x.1) (0, List.replicate xs.length 0) (Ent.to ⟨rfl, rfl, rfl, trivial⟩ (by simp [ins, nrow])) ?_ (fun x hi => ?_)
 ·
  exact ⟨Nat.zero_le _, List.length_replicate, fun j hj => absurd hj (Nat.not_lt_zero j)⟩
 refine AWP.seq ?_
 refine AWP.seq ?_
 refine AWP.region ?_
 refine AOps.step (Val.of hσ rfl rfl) rfl rfl rfl ?_
 refine AOps.step (Val.of hσ rfl rfl) rfl rfl rfl ?_
 first | refine AOps.step (Val.lenD hσ rfl rfl rfl rfl rfl rfl rfl rfl) rfl rfl rfl ?_ | refine AOps.step (Val.of hσ rfl rfl) rfl rfl rfl ?_ | refine AOps.step (Val.vif hσ rfl rfl (by first | omega | (simp at *; omega))) rfl rfl rfl ?_
 refine AOps.step (Val.of hσ rfl rfl) rfl rfl rfl ?_
 refine AOps.nil ?_
 refine AWP.cond hσ rfl rfl (fun hc11 => ?_) (fun hc11 => ?_)
 ·
  try simp only [List.length_map, beq_iff_eq, decide_eq_true_eq, decide_eq_false_iff_not, Bool.not_eq_true', Bool.not_eq_false', Bool.not_true, Bool.not_false, Int.not_lt, Int.not_le] at hc11
  refine AWP.skip ?_
  refine AWP.seq ?_
  refine AWP.block ?_
  refine AWP.region ?_
  refine AOps.step (Val.of hσ rfl rfl) rfl rfl rfl ?_
  refine AOps.step (Val.of hσ rfl rfl) rfl rfl rfl ?_
  refine AOps.step (Val.of hσ rfl rfl) rfl rfl rfl ?_
  refine AOps.step (Val.of hσ rfl rfl) rfl rfl rfl ?_
  first | refine AOps.step (Val.indexD hσ rfl rfl rfl rfl rfl rfl rfl rfl (by first | omega | (simp at *; omega)) (idx_get (by first | omega | (simp at *; omega)) (by first | omega | (simp at *; omega)))) rfl rfl rfl ?_ | refine AOps.step (Val.vif hσ rfl rfl (by first | omega | (simp at *; omega))) rfl rfl rfl ?_
  refine AOps.step (Val.of hσ rfl rfl) rfl rfl rfl ?_
  first | refine AOps.step (Val.indexD hσ rfl rfl rfl rfl rfl rfl rfl rfl (by first | omega | (simp at *; omega)) (idx_get (by first | omega | (simp at *; omega)) (by first | omega | (simp at *; omega)))) rfl rfl rfl ?_ | refine AOps.step (Val.vif hσ rfl rfl (by first | omega | (simp at *; omega))) rfl rfl rfl ?_
  refine AOps.heap (HS.storeRow (ex := [.int .i64 (x.2.getD x.1 default)]) (xs' := (x.2.set x.1 (xs.getD x.1 default)).map fun n => [.int .i64 n]) hσ rfl rfl rfl rfl rfl rfl rfl rfl rfl rfl rfl rfl rfl rfl (by simp [hi.2.1, show x.1 < xs.length by omega]) (by simp [List.map_set])) rfl ?_
  refine AOps.nil ?_
  refine AWP.region ?_
  refine AOps.step (Val.of hσ rfl rfl) rfl rfl rfl ?_
  first | refine AOps.step (Val.fits64 hσ rfl rfl (by first | omega | (simp at *; omega)) (by first | omega | (simp at *; omega))) rfl rfl rfl ?_ | refine AOps.step (Val.vif hσ rfl rfl (by first | omega | (simp at *; omega))) rfl rfl rfl ?_
  refine AOps.step (Val.of hσ rfl rfl) rfl rfl rfl ?_
  refine AOps.nil ?_
  refine ⟨(x.1 + 1, x.2.set x.1 (xs.getD x.1 default)), Ent.to ⟨rfl, rfl, rfl, trivial⟩ rfl, ⟨by omega, by simp [hi.2.1], fun j hj => ?_⟩, by omega⟩
  rw [List.getElem?_set]
  split
  ·
   rename_i e; subst e; simp [hi.2.1, show x.1 < xs.length by omega]
  ·
   exact hi.2.2 j (by omega)
 ·
  try simp only [List.length_map, beq_iff_eq, decide_eq_true_eq, decide_eq_false_iff_not, Bool.not_eq_true', Bool.not_eq_false', Bool.not_true, Bool.not_false, Int.not_lt, Int.not_le] at hc11
  refine AWP.exit ?_
  refine AWP.seq ?_
  refine AWP.region ?_
  refine AOps.step (Val.of hσ rfl rfl) rfl rfl rfl ?_
  refine AOps.step (Val.of hσ rfl rfl) rfl rfl rfl ?_
  refine AOps.nil ?_
  refine AWP.ret ?_
  have e : x.2 = xs := List.ext_getElem? fun j => by
   rcases Nat.lt_or_ge j x.1 with h | h
   ·
    exact hi.2.2 j h
   ·
    rw [List.getElem?_eq_none (by omega), List.getElem?_eq_none (by omega)]
  refine ⟨.inl rfl, _, Ent.refl, _, rfl, [7], by decide, rfl, rfl, ?_⟩
  rw [← e]; rfl
end Go.Al
namespace Go.Al
open Go.Proofs
set_option linter.unusedVariables false
set_option linter.unusedSimpArgs false
set_option maxRecDepth 10000

theorem c15 {L : Nat} (h1 : 4096 ≤ L) (h2 : L ≤ 1073741824) {xs ys : List Int} : MC Try.prog L 81 [aints xs, aints ys] [] (Plain (eB (decide (xs = ys)))) := by
 refine MC.alone ?_ rfl
 have hσ := SGok (nt := 26) h1 (Nat.le_trans h2 (by decide))
 refine MC.body hσ Try.func81 (by kernel_rfl) rfl rfl (Nat.le_of_ble_eq_true rfl) (fun hF => ?_)
 have hl : xs.length ≤ L := by simpa [As.fact, A.fact, M.fact, D.fact, Ds.fact] using hF.1.1
 have hl2 : ys.length ≤ L := by simpa [As.fact, A.fact, M.fact, D.fact, Ds.fact] using hF.2.1.1
 refine AWP.seq ?_
 refine AWP.region ?_
 refine AOps.step (Val.of hσ rfl rfl) rfl rfl rfl ?_
 refine AOps.nil ?_
 refine AWP.seq ?_
 refine AWP.seq ?_
 refine AWP.region ?_
 refine AOps.step (Val.of hσ rfl rfl) rfl rfl rfl ?_
 first | refine AOps.step (Val.lenD hσ rfl rfl rfl rfl rfl rfl rfl rfl) rfl rfl rfl ?_ | refine AOps.step (Val.of hσ rfl rfl) rfl rfl rfl ?_ | refine AOps.step (Val.vif hσ rfl rfl (by first | omega | (simp at *; omega))) rfl rfl rfl ?_
 refine AOps.step (Val.of hσ rfl rfl) rfl rfl rfl ?_
 first | refine AOps.step (Val.lenD hσ rfl rfl rfl rfl rfl rfl rfl rfl) rfl rfl rfl ?_ | refine AOps.step (Val.of hσ rfl rfl) rfl rfl rfl ?_ | refine AOps.step (Val.vif hσ rfl rfl (by first | omega | (simp at *; omega))) rfl rfl rfl ?_
 refine AOps.step (Val.of hσ rfl rfl) rfl rfl rfl ?_
 refine AOps.nil ?_
 refine AWP.cond hσ rfl rfl (fun hc10 => ?_) (fun hc10 => ?_)
 ·
  try simp only [List.length_map, beq_iff_eq, decide_eq_true_eq, decide_eq_false_iff_not, Bool.not_eq_true', Bool.not_eq_false', Bool.not_true, Bool.not_false, Int.not_lt, Int.not_le] at hc10
  refine AWP.seq ?_
  refine AWP.region ?_
  refine AOps.step (Val.of hσ rfl rfl) rfl rfl rfl ?_
  refine AOps.nil ?_
  refine AWP.ret ?_
  refine ⟨.inl rfl, _, Ent.refl, _, rfl, ?_⟩
  rw [decide_eq_false (fun e => by subst e; simp at hc10)]
 ·
  try simp only [List.length_map, beq_iff_eq, decide_eq_true_eq, decide_eq_false_iff_not, Bool.not_eq_true', Bool.not_eq_false', Bool.not_true, Bool.not_false, Int.not_lt, Int.not_le] at hc10
  refine AWP.skip ?_
  refine AWP.seq ?_
  refine AWP.seq ?_
  refine AWP.region ?_
  refine AOps.step (Val.of hσ rfl rfl) rfl rfl rfl ?_
  refine AOps.nil ?_
  refine AWP.block ?_
  refine AWP.loopP (X := Nat) (fun i => ⟨[(0, aints xs), (1, aints ys), (5, eI i)], []⟩) (fun i => i ≤ xs.length ∧ ∀ j, j < i → xs[j]? = ys[j]?) (fun i => xs.length - i) 0 (Ent.env ⟨rfl, rfl, rfl, trivial⟩) ?_ (fun i hi => ?_)
  ·
   exact ⟨Nat.zero_le _, fun j hj => absurd hj (Nat.not_lt_zero j)⟩
  refine AWP.seq ?_
  refine AWP.seq ?_
  refine AWP.region ?_
  refine AOps.step (Val.of hσ rfl rfl) rfl rfl rfl ?_
  refine AOps.step (Val.of hσ rfl rfl) rfl rfl rfl ?_
  first | refine AOps.step (Val.lenD hσ rfl rfl rfl rfl rfl rfl rfl rfl) rfl rfl rfl ?_ | refine AOps.step (Val.of hσ rfl rfl) rfl rfl rfl ?_ | refine AOps.step (Val.vif hσ rfl rfl (by first | omega | (simp at *; omega))) rfl rfl rfl ?_
  refine AOps.step (Val.of hσ rfl rfl) rfl rfl rfl ?_
  refine AOps.nil ?_
  refine AWP.cond hσ rfl rfl (fun hc14 => ?_) (fun hc14 => ?_)
  ·
   try simp only [List.length_map, beq_iff_eq, decide_eq_true_eq, decide_eq_false_iff_not, Bool.not_eq_true', Bool.not_eq_false', Bool.not_true, Bool.not_false, Int.not_lt, Int.not_le] at hc14
   refine AWP.skip ?_
   refine AWP.seq ?_
   refine AWP.block ?_
   refine AWP.seq ?_
   refine AWP.drawR hσ _ [_, _, _, _, _, _, _, _, _] [⟨[], 0, 0, none⟩, ⟨[], 0, 0, none⟩, ⟨[0, 1], 0, 0, none⟩, ⟨[0, 1, 2], 0, 0, none⟩, ⟨[], 0, 0, none⟩, ⟨[], 0, 0, none⟩, ⟨[4, 5], 0, 0, none⟩, ⟨[4, 5, 6], 0, 0, none⟩, ⟨[0, 1, 2, 3, 4, 5, 6, 7], 0, 0, none⟩] [] [_] rfl rfl (by decide) (by decide) (by kernel_rfl) (And.intro (Val.of hσ rfl rfl) (And.intro (Val.of hσ rfl rfl) (And.intro (Val.indexD hσ rfl rfl rfl rfl rfl rfl rfl rfl (by first | omega | (simp at *; omega)) (idx_get (by first | omega | (simp at *; omega)) (by first | omega | (simp at *; omega)))) (And.intro (Val.of hσ rfl rfl) (And.intro (Val.of hσ rfl rfl) (And.intro (Val.of hσ rfl rfl) (And.intro (Val.indexD hσ rfl rfl rfl rfl rfl rfl rfl rfl (by first | omega | (simp at *; omega)) (idx_get (by first | omega | (simp at *; omega)) (by first | omega | (simp at *; omega)))) (And.intro (Val.of hσ rfl rfl) (And.intro (Val.of hσ rfl rfl) trivial))))))))) ?_
   refine AWP.cond hσ rfl rfl (fun hc25 => ?_) (fun hc25 => ?_)
   ·
    try simp only [List.length_map, beq_iff_eq, decide_eq_true_eq, decide_eq_false_iff_not, Bool.not_eq_true', Bool.not_eq_false', Bool.not_true, Bool.not_false, Int.not_lt, Int.not_le] at hc25
    refine AWP.seq ?_
    refine AWP.region ?_
    refine AOps.step (Val.of hσ rfl rfl) rfl rfl rfl ?_
    refine AOps.nil ?_
    refine AWP.ret ?_
    refine ⟨.inl rfl, _, Ent.refl, _, rfl, ?_⟩
    rw [decide_eq_false (fun e => by subst e; simp at hc25)]
   ·
    try simp only [List.length_map, beq_iff_eq, decide_eq_true_eq, decide_eq_false_iff_not, Bool.not_eq_true', Bool.not_eq_false', Bool.not_true, Bool.not_false, Int.not_lt, Int.not_le] at hc25
    refine AWP.skip ?_
    refine AWP.region ?_
    refine AOps.step (Val.of hσ rfl rfl) rfl rfl rfl ?_
    first | refine AOps.step (Val.fits64 hσ rfl rfl (by first | omega | (simp at *; omega)) (by first | omega | (simp at *; omega))) rfl rfl rfl ?_ | refine AOps.step (Val.vif hσ rfl rfl (by first | omega | (simp at *; omega))) rfl rfl rfl ?_
    refine AOps.step (Val.of hσ rfl rfl) rfl rfl rfl ?_
    refine AOps.nil ?_
    refine ⟨i + 1, Ent.env ⟨rfl, rfl, rfl, trivial⟩, ⟨by omega, fun j hj => ?_⟩, by omega⟩
    rcases Nat.lt_or_ge j i with h | h
    ·
     exact hi.2 j h
    ·
     obtain rfl : j = i := by omega
     rw [Int.toNat_natCast, getD_lt (by omega), getD_lt (by omega)] at hc25
     rw [List.getElem?_eq_getElem (by omega), List.getElem?_eq_getElem (by omega), hc25]
  ·
   try simp only [List.length_map, beq_iff_eq, decide_eq_true_eq, decide_eq_false_iff_not, Bool.not_eq_true', Bool.not_eq_false', Bool.not_true, Bool.not_false, Int.not_lt, Int.not_le] at hc14
   refine AWP.exit ?_
   refine AWP.seq ?_
   refine AWP.region ?_
   refine AOps.step (Val.of hσ rfl rfl) rfl rfl rfl ?_
   refine AOps.nil ?_
   refine AWP.ret ?_
   refine ⟨.inl rfl, _, Ent.refl, _, rfl, ?_⟩
   have e : xs = ys := List.ext_getElem? fun j => by
    rcases Nat.lt_or_ge j i with h | h
    ·
     exact hi.2 j h
    ·
     rw [List.getElem?_eq_none (by omega), List.getElem?_eq_none (by omega)]
   rw [decide_eq_true e]
end Go.Al
namespace Go.Al
open Go.Proofs
set_option linter.unusedVariables false
set_option linter.unusedSimpArgs false
set_option maxRecDepth 10000
deriving instance DecidableEq for Tm
abbrev aTm (t : Tm) : A := .agg [.d (.int .i64 t.c), .d (ints t.xs)]
abbrev tms (ts : List Tm) : D := .slc 2 (ts.map Tm.cells)
abbrev atms (ts : List Tm) : A := .c (.d (tms ts))
abbrev trow (ts : List Tm) : B := .row true 2 (ts.map Tm.cells)

theorem c87 {L : Nat} (h1 : 4096 ≤ L) (h2 : L ≤ 1073741824) {t : Tm} : MC Try.prog L 39 [aTm t] [] (Rows (.agg [.d (.int .i64 t.c), .rs 0 0 t.xs.length]) [nrow t.xs]) := by
 refine MC.rows ?_
 have hσ := SGok (nt := 12) h1 (Nat.le_trans h2 (by decide))
 refine MC.body hσ Try.func39 (by kernel_rfl) rfl rfl (Nat.le_of_ble_eq_true rfl) (fun hF => ?_)
 refine AWP.seq ?_
 refine AWP.region ?_
 refine AOps.heap (HS.box hσ rfl rfl rfl rfl rfl rfl rfl) rfl ?_
 refine AOps.heap (HS.alloc hσ rfl rfl rfl rfl rfl) rfl ?_
 refine AOps.nil ?_
 refine AWP.seq ?_
 refine AWP.region ?_
 refine AOps.heap (HS.alloc hσ rfl rfl rfl rfl rfl) rfl ?_
 refine AOps.nil ?_
 refine AWP.seq ?_
 refine AWP.region ?_
 refine AOps.step (Val.of hσ rfl rfl) rfl rfl rfl ?_
 refine AOps.step (Val.of hσ rfl rfl) rfl rfl rfl ?_
 refine AOps.step (Val.of hσ rfl rfl) rfl rfl rfl ?_
 refine AOps.heap (HS.storeBox hσ rfl rfl rfl rfl rfl rfl rfl rfl rfl rfl rfl) rfl ?_
 refine AOps.nil ?_
 refine AWP.seq ?_
 refine AWP.region ?_
 refine AOps.step (Val.of hσ rfl rfl) rfl rfl rfl ?_
 refine AOps.step (Val.of hσ rfl rfl) rfl rfl rfl ?_
 refine AOps.rows hσ (B0 := 10000) rfl rfl rfl rfl (c61 h1 h2) (VAs.self rfl) rfl rfl rfl rfl rfl rfl ?_
 refine AOps.step (Val.of hσ rfl rfl) rfl rfl rfl ?_
 refine AOps.heap (HS.storeBox hσ rfl rfl rfl rfl rfl rfl rfl rfl rfl rfl rfl) rfl ?_
 refine AOps.nil ?_
 refine AWP.seq ?_
 refine AWP.region ?_
 refine AOps.step (Val.of hσ rfl rfl) rfl rfl rfl ?_
 refine AOps.heap (HS.storeBox hσ rfl rfl rfl rfl rfl rfl rfl rfl rfl rfl rfl) rfl ?_
 refine AOps.nil ?_
 refine AWP.ret ?_
 refine ⟨.inl rfl, _, Ent.refl, _, rfl, [10000], by decide, rfl, rfl, rfl⟩
theorem c92 {L : Nat} (h1 : 4096 ≤ L) (h2 : L ≤ 1073741824) {s t : Tm} : MC Try.prog L 53 [aTm s, aTm t] [] (Plain (eB (decide (s = t)))) := by
 refine MC.alone ?_ rfl
 have hσ := SGok (nt := 16) h1 (Nat.le_trans h2 (by decide))
 refine MC.body hσ Try.func53 (by kernel_rfl) rfl rfl (Nat.le_of_ble_eq_true rfl) (fun hF => ?_)
 refine AWP.seq ?_
 refine AWP.region ?_
 refine AOps.heap (HS.box hσ rfl rfl rfl rfl rfl rfl rfl) rfl ?_
 refine AOps.heap (HS.box hσ rfl rfl rfl rfl rfl rfl rfl) rfl ?_
 refine AOps.step (Val.of hσ rfl rfl) rfl rfl rfl ?_
 refine AOps.nil ?_
 refine AWP.seq ?_
 refine AWP.seq ?_
 refine AWP.region ?_
 refine AOps.step (Val.of hσ rfl rfl) rfl rfl rfl ?_
 refine AOps.step (Val.of hσ rfl rfl) rfl rfl rfl ?_
 refine AOps.step (Val.of hσ rfl rfl) rfl rfl rfl ?_
 refine AOps.step (Val.of hσ rfl rfl) rfl rfl rfl ?_
 refine AOps.step (Val.of hσ rfl rfl) rfl rfl rfl ?_
 refine AOps.nil ?_
 refine AWP.cond hσ rfl rfl (fun hc9 => ?_) (fun hc9 => ?_)
 ·
  try simp only [List.length_map, beq_iff_eq, decide_eq_true_eq, decide_eq_false_iff_not, Bool.not_eq_true', Bool.not_eq_false', Bool.not_true, Bool.not_false, Int.not_lt, Int.not_le] at hc9
  refine AWP.seq ?_
  refine AWP.region ?_
  refine AOps.step (Val.of hσ rfl rfl) rfl rfl rfl ?_
  refine AOps.nil ?_
  refine AWP.ret ?_
  refine ⟨.inl rfl, _, Ent.refl, _, rfl, ?_⟩
  rw [decide_eq_false (fun e => hc9 (by rw [e]))]
 ·
  try simp only [List.length_map, beq_iff_eq, decide_eq_true_eq, decide_eq_false_iff_not, Bool.not_eq_true', Bool.not_eq_false', Bool.not_true, Bool.not_false, Int.not_lt, Int.not_le] at hc9
  refine AWP.skip ?_
  refine AWP.seq ?_
  refine AWP.seq ?_
  refine AWP.region ?_
  refine AOps.step (Val.of hσ rfl rfl) rfl rfl rfl ?_
  refine AOps.step (Val.of hσ rfl rfl) rfl rfl rfl ?_
  refine AOps.step (Val.of hσ rfl rfl) rfl rfl rfl ?_
  refine AOps.step (Val.of hσ rfl rfl) rfl rfl rfl ?_
  refine AOps.lone hσ rfl rfl rfl rfl (c15 h1 h2) (VAs.self rfl) rfl rfl rfl rfl rfl (B0 := 15000) rfl ?_
  refine AOps.step (Val.of hσ rfl rfl) rfl rfl rfl ?_
  refine AOps.nil ?_
  refine AWP.cond hσ rfl rfl (fun hc15 => ?_) (fun hc15 => ?_)
  ·
   try simp only [List.length_map, beq_iff_eq, decide_eq_true_eq, decide_eq_false_iff_not, Bool.not_eq_true', Bool.not_eq_false', Bool.not_true, Bool.not_false, Int.not_lt, Int.not_le] at hc15
   refine AWP.seq ?_
   refine AWP.region ?_
   refine AOps.step (Val.of hσ rfl rfl) rfl rfl rfl ?_
   refine AOps.nil ?_
   refine AWP.ret ?_
   refine ⟨.inl rfl, _, Ent.refl, _, rfl, ?_⟩
   rw [decide_eq_false (fun e => hc15 (by rw [e]))]
  ·
   try simp only [List.length_map, beq_iff_eq, decide_eq_true_eq, decide_eq_false_iff_not, Bool.not_eq_true', Bool.not_eq_false', Bool.not_true, Bool.not_false, Int.not_lt, Int.not_le] at hc15
   refine AWP.skip ?_
   refine AWP.seq ?_
   refine AWP.region ?_
   refine AOps.step (Val.of hσ rfl rfl) rfl rfl rfl ?_
   refine AOps.nil ?_
   refine AWP.ret ?_
   refine ⟨.inl rfl, _, Ent.refl, _, rfl, ?_⟩
   have e : s = t := by cases s; cases t; simp_all
   rw [decide_eq_true e]
end Go.Al
namespace Go.Al
open Go.Proofs
set_option linter.unusedVariables false
set_option linter.unusedSimpArgs false
set_option maxRecDepth 10000
def szr (left : Int) (n : Nat) : Int := if left < n then -1 else left - n
def Tm.size (t : Tm) : Nat := t.xs.length

theorem c54 {L : Nat} (h1 : 4096 ≤ L) (h2 : L ≤ 9223372036854775807) {xs : List Int} {left : Int} (hl0 : 0 ≤ left) (hl1 : left ≤ 1048576) : MC Try.prog L 58 [aints xs, eI left] [] (Plain (eI (szr left xs.length))) := by
 refine MC.alone ?_ rfl
 have hσ := SGok (nt := 12) h1 h2
 refine MC.body hσ Try.func58 (by kernel_rfl) rfl rfl (Nat.le_of_ble_eq_true rfl) (fun hF => ?_)
 have hl : xs.length ≤ L := by simpa [As.fact, A.fact, M.fact, D.fact, Ds.fact] using hF.1.1
 refine AWP.seq ?_
 refine AWP.region ?_
 refine AOps.step (Val.of hσ rfl rfl) rfl rfl rfl ?_
 refine AOps.nil ?_
 refine AWP.seq ?_
 refine AWP.region ?_
 refine AOps.step (Val.of hσ rfl rfl) rfl rfl rfl ?_
 refine AOps.step (Val.of hσ rfl rfl) rfl rfl rfl ?_
 first | refine AOps.step (Val.lenD hσ rfl rfl rfl rfl rfl rfl rfl rfl) rfl rfl rfl ?_ | refine AOps.step (Val.of hσ rfl rfl) rfl rfl rfl ?_ | refine AOps.step (Val.vif hσ rfl rfl (by first | omega | (simp at *; omega))) rfl rfl rfl ?_
 first | refine AOps.step (Val.fits64 hσ rfl rfl (by first | omega | (simp at *; omega)) (by first | omega | (simp at *; omega))) rfl rfl rfl ?_ | refine AOps.step (Val.vif hσ rfl rfl (by first | omega | (simp at *; omega))) rfl rfl rfl ?_
 refine AOps.step (Val.of hσ rfl rfl) rfl rfl rfl ?_
 refine AOps.nil ?_
 refine AWP.seq ?_
 refine AWP.seq ?_
 refine AWP.region ?_
 refine AOps.step (Val.of hσ rfl rfl) rfl rfl rfl ?_
 refine AOps.step (Val.of hσ rfl rfl) rfl rfl rfl ?_
 refine AOps.nil ?_
 refine AWP.cond hσ rfl rfl (fun hc10 => ?_) (fun hc10 => ?_)
 ·
  try simp only [List.length_map, beq_iff_eq, decide_eq_true_eq, decide_eq_false_iff_not, Bool.not_eq_true', Bool.not_eq_false', Bool.not_true, Bool.not_false, Int.not_lt, Int.not_le] at hc10
  refine AWP.seq ?_
  refine AWP.region ?_
  refine AOps.step (Val.of hσ rfl rfl) rfl rfl rfl ?_
  refine AOps.nil ?_
  refine AWP.ret ?_
  refine ⟨.inl rfl, _, Ent.refl, _, rfl, ?_⟩
  rw [show szr left xs.length = -1 from if_pos (by omega)]
 ·
  try simp only [List.length_map, beq_iff_eq, decide_eq_true_eq, decide_eq_false_iff_not, Bool.not_eq_true', Bool.not_eq_false', Bool.not_true, Bool.not_false, Int.not_lt, Int.not_le] at hc10
  refine AWP.skip ?_
  refine AWP.seq ?_
  refine AWP.region ?_
  refine AOps.step (Val.of hσ rfl rfl) rfl rfl rfl ?_
  refine AOps.step (Val.of hσ rfl rfl) rfl rfl rfl ?_
  refine AOps.nil ?_
  refine AWP.ret ?_
  refine ⟨.inl rfl, _, Ent.refl, _, rfl, ?_⟩
  rw [show szr left xs.length = left - xs.length from if_neg (by omega)]
theorem c80 {L : Nat} (h1 : 4096 ≤ L) (h2 : L ≤ 9223372036854775807) {t : Tm} {left : Int} (hl0 : 0 ≤ left) (hl1 : left ≤ 1048576) : MC Try.prog L 31 [aTm t, eI left] [] (Plain (eI (szr left t.size))) := by
 refine MC.alone ?_ rfl
 have hσ := SGok (nt := 12) h1 h2
 refine MC.body hσ Try.func31 (by kernel_rfl) rfl rfl (Nat.le_of_ble_eq_true rfl) (fun hF => ?_)
 refine AWP.seq ?_
 refine AWP.region ?_
 refine AOps.heap (HS.box hσ rfl rfl rfl rfl rfl rfl rfl) rfl ?_
 refine AOps.step (Val.of hσ rfl rfl) rfl rfl rfl ?_
 refine AOps.nil ?_
 refine AWP.seq ?_
 refine AWP.region ?_
 refine AOps.step (Val.of hσ rfl rfl) rfl rfl rfl ?_
 refine AOps.step (Val.of hσ rfl rfl) rfl rfl rfl ?_
 refine AOps.step (Val.of hσ rfl rfl) rfl rfl rfl ?_
 refine AOps.lone hσ rfl rfl rfl rfl (c54 h1 h2 hl0 hl1) (VAs.self rfl) rfl rfl rfl rfl rfl (B0 := 9000) rfl ?_
 refine AOps.step (Val.of hσ rfl rfl) rfl rfl rfl ?_
 refine AOps.nil ?_
 refine AWP.seq ?_
 refine AWP.seq ?_
 refine AWP.region ?_
 refine AOps.step (Val.of hσ rfl rfl) rfl rfl rfl ?_
 refine AOps.step (Val.of hσ rfl rfl) rfl rfl rfl ?_
 refine AOps.nil ?_
 refine AWP.cond hσ rfl rfl (fun hc10 => ?_) (fun hc10 => ?_)
 ·
  try simp only [List.length_map, beq_iff_eq, decide_eq_true_eq, decide_eq_false_iff_not, Bool.not_eq_true', Bool.not_eq_false', Bool.not_true, Bool.not_false, Int.not_lt, Int.not_le] at hc10
  refine AWP.seq ?_
  refine AWP.region ?_
  refine AOps.step (Val.of hσ rfl rfl) rfl rfl rfl ?_
  refine AOps.nil ?_
  refine AWP.ret ?_
  refine ⟨.inl rfl, _, Ent.refl, _, rfl, ?_⟩
  have : szr left t.size = -1 := by unfold szr Tm.size at *; split at hc10 <;> simp_all <;> omega
  rw [this]
 ·
  try simp only [List.length_map, beq_iff_eq, decide_eq_true_eq, decide_eq_false_iff_not, Bool.not_eq_true', Bool.not_eq_false', Bool.not_true, Bool.not_false, Int.not_lt, Int.not_le] at hc10
  refine AWP.skip ?_
  refine AWP.seq ?_
  refine AWP.region ?_
  refine AOps.step (Val.of hσ rfl rfl) rfl rfl rfl ?_
  refine AOps.step (Val.of hσ rfl rfl) rfl rfl rfl ?_
  refine AOps.nil ?_
  refine AWP.ret ?_
  refine ⟨.inl rfl, _, Ent.refl, _, rfl, ?_⟩
  rfl

def szs {α : Type} (f : α → Nat) (xs : List α) : Nat := xs.length + (xs.map f).sum
theorem sum_take {α : Type} [Inhabited α] (f : α → Nat) (xs : List α) (i : Nat) (h : i < xs.length) : ((xs.take (i + 1)).map f).sum = ((xs.take i).map f).sum + f (xs.getD i default) := by
  rw [List.take_add_one, List.map_append, List.sum_append, List.getElem?_eq_getElem h]
  simp [h]
theorem sum_le {α : Type} (f : α → Nat) (xs : List α) (i : Nat) : ((xs.take i).map f).sum ≤ (xs.map f).sum := by
  conv => rhs; rw [← List.take_append_drop i xs, List.map_append, List.sum_append]
  omega

theorem c52 {L : Nat} (h1 : 4096 ≤ L) (h2 : L ≤ 9223372036854775807) {ts : List Tm} {left : Int} (hl0 : 0 ≤ left) (hl1 : left ≤ 1048576) : MC Try.prog L 11 [atms ts, eI left] [] (Plain (eI (szr left (Al.szs Tm.size ts)))) := by
 refine MC.alone ?_ rfl
 have hσ := SGok (nt := 27) h1 h2
 refine MC.body hσ Try.func11 (by kernel_rfl) rfl rfl (Nat.le_of_ble_eq_true rfl) (fun hF => ?_)
 have hl : ts.length ≤ L := by simpa [As.fact, A.fact, M.fact, D.fact, Ds.fact] using hF.1.1
 refine AWP.seq ?_
 refine AWP.region ?_
 refine AOps.step (Val.of hσ rfl rfl) rfl rfl rfl ?_
 refine AOps.nil ?_
 refine AWP.seq ?_
 refine AWP.region ?_
 refine AOps.step (Val.of hσ rfl rfl) rfl rfl rfl ?_
 refine AOps.step (Val.of hσ rfl rfl) rfl rfl rfl ?_
 first | refine AOps.step (Val.lenD hσ rfl rfl rfl rfl rfl rfl rfl rfl) rfl rfl rfl ?_ | refine AOps.step (Val.of hσ rfl rfl) rfl rfl rfl ?_ | refine AOps.step (Val.vif hσ rfl rfl (by first | omega | (simp at *; omega))) rfl rfl rfl ?_
 first | refine AOps.step (Val.fits64 hσ rfl rfl (by first | omega | (simp at *; omega)) (by first | omega | (simp at *; omega))) rfl rfl rfl ?_ | refine AOps.step (Val.vif hσ rfl rfl (by first | omega | (simp at *; omega))) rfl rfl rfl ?_
 refine AOps.step (Val.of hσ rfl rfl) rfl rfl rfl ?_
 refine AOps.nil ?_
 refine AWP.seq ?_
 refine AWP.seq ?_
 refine AWP.region ?_
 refine AOps.step (Val.of hσ rfl rfl) rfl rfl rfl ?_
 refine AOps.step (Val.of hσ rfl rfl) rfl rfl rfl ?_
 refine AOps.nil ?_
 refine AWP.cond hσ rfl rfl (fun hc11 => ?_) (fun hc11 => ?_)
 ·
  try simp only [List.length_map, beq_iff_eq, decide_eq_true_eq, decide_eq_false_iff_not, Bool.not_eq_true', Bool.not_eq_false', Bool.not_true, Bool.not_false, Int.not_lt, Int.not_le] at hc11
  refine AWP.seq ?_
  refine AWP.region ?_
  refine AOps.step (Val.of hσ rfl rfl) rfl rfl rfl ?_
  refine AOps.nil ?_
  refine AWP.ret ?_
  refine ⟨.inl rfl, _, Ent.refl, _, rfl, ?_⟩
  rw [show szr left (Al.szs Tm.size ts) = -1 from if_pos (by unfold Al.szs; omega)]
 ·
  try simp only [List.length_map, beq_iff_eq, decide_eq_true_eq, decide_eq_false_iff_not, Bool.not_eq_true', Bool.not_eq_false', Bool.not_true, Bool.not_false, Int.not_lt, Int.not_le] at hc11
  refine AWP.skip ?_
  refine AWP.seq ?_
  refine AWP.seq ?_
  refine AWP.region ?_
  refine AOps.step (Val.of hσ rfl rfl) rfl rfl rfl ?_
  refine AOps.nil ?_
  refine AWP.block ?_
  refine AWP.loopP (X := Nat) (fun i => ⟨[(0, atms ts), (1, eI (left - ts.length - ((ts.take i).map Tm.size).sum)), (5, eI i)], []⟩) (fun i => i ≤ ts.length ∧ (0 : Int) ≤ left - ts.length - ((ts.take i).map Tm.size).sum) (fun i => ts.length - i) 0 (Ent.env ⟨rfl, by simp [lk_cons], rfl, trivial⟩) ?_ (fun i hi => ?_)
  ·
   exact ⟨Nat.zero_le _, by simp; omega⟩
  refine AWP.seq ?_
  refine AWP.seq ?_
  refine AWP.region ?_
  refine AOps.step (Val.of hσ rfl rfl) rfl rfl rfl ?_
  refine AOps.step (Val.of hσ rfl rfl) rfl rfl rfl ?_
  first | refine AOps.step (Val.lenD hσ rfl rfl rfl rfl rfl rfl rfl rfl) rfl rfl rfl ?_ | refine AOps.step (Val.of hσ rfl rfl) rfl rfl rfl ?_ | refine AOps.step (Val.vif hσ rfl rfl (by first | omega | (simp at *; omega))) rfl rfl rfl ?_
  refine AOps.step (Val.of hσ rfl rfl) rfl rfl rfl ?_
  refine AOps.nil ?_
  refine AWP.cond hσ rfl rfl (fun hc15 => ?_) (fun hc15 => ?_)
  ·
   try simp only [List.length_map, beq_iff_eq, decide_eq_true_eq, decide_eq_false_iff_not, Bool.not_eq_true', Bool.not_eq_false', Bool.not_true, Bool.not_false, Int.not_lt, Int.not_le] at hc15
   refine AWP.skip ?_
   refine AWP.seq ?_
   refine AWP.block ?_
   refine AWP.seq ?_
   refine AWP.region ?_
   refine AOps.step (Val.of hσ rfl rfl) rfl rfl rfl ?_
   refine AOps.step (Val.of hσ rfl rfl) rfl rfl rfl ?_
   first | refine AOps.step (Val.indexD hσ rfl rfl rfl rfl rfl rfl rfl rfl (by first | omega | (simp at *; omega)) (idx_get (by first | omega | (simp at *; omega)) (by first | omega | (simp at *; omega)))) rfl rfl rfl ?_ | refine AOps.step (Val.vif hσ rfl rfl (by first | omega | (simp at *; omega))) rfl rfl rfl ?_
   refine AOps.step (Val.of hσ rfl rfl) rfl rfl rfl ?_
   refine AOps.step (Val.of hσ rfl rfl) rfl rfl rfl ?_
   refine AOps.lone hσ rfl rfl rfl rfl (c80 h1 h2 hi.2 (by omega)) (VAs.self rfl) rfl rfl rfl rfl rfl (B0 := 24000) rfl ?_
   refine AOps.step (Val.of hσ rfl rfl) rfl rfl rfl ?_
   refine AOps.nil ?_
   refine AWP.seq ?_
   refine AWP.region ?_
   refine AOps.step (Val.of hσ rfl rfl) rfl rfl rfl ?_
   refine AOps.step (Val.of hσ rfl rfl) rfl rfl rfl ?_
   refine AOps.nil ?_
   refine AWP.cond hσ rfl rfl (fun hc25 => ?_) (fun hc25 => ?_)
   ·
    try simp only [List.length_map, beq_iff_eq, decide_eq_true_eq, decide_eq_false_iff_not, Bool.not_eq_true', Bool.not_eq_false', Bool.not_true, Bool.not_false, Int.not_lt, Int.not_le] at hc25
    refine AWP.seq ?_
    refine AWP.region ?_
    refine AOps.step (Val.of hσ rfl rfl) rfl rfl rfl ?_
    refine AOps.nil ?_
    refine AWP.ret ?_
    refine ⟨.inl rfl, _, Ent.refl, _, rfl, ?_⟩
    have e := sum_take Tm.size ts i (by omega)
    have e3 := sum_le Tm.size ts (i + 1)
    rw [Int.toNat_natCast] at hc25
    rw [show szr left (Al.szs Tm.size ts) = -1 from if_pos (by unfold szr at hc25; unfold Al.szs; split at hc25 <;> omega)]
   ·
    try simp only [List.length_map, beq_iff_eq, decide_eq_true_eq, decide_eq_false_iff_not, Bool.not_eq_true', Bool.not_eq_false', Bool.not_true, Bool.not_false, Int.not_lt, Int.not_le] at hc25
    refine AWP.skip ?_
    refine AWP.region ?_
    refine AOps.step (Val.of hσ rfl rfl) rfl rfl rfl ?_
    first | refine AOps.step (Val.fits64 hσ rfl rfl (by first | omega | (simp at *; omega)) (by first | omega | (simp at *; omega))) rfl rfl rfl ?_ | refine AOps.step (Val.vif hσ rfl rfl (by first | omega | (simp at *; omega))) rfl rfl rfl ?_
    refine AOps.step (Val.of hσ rfl rfl) rfl rfl rfl ?_
    refine AOps.nil ?_
    have e := sum_take Tm.size ts i (by omega)
    have e2 : szr (left - ts.length - ((ts.take i).map Tm.size).sum) (ts.getD i default).size = left - ts.length - ((ts.take (i + 1)).map Tm.size).sum := by
     unfold szr at hc25 ⊢
     rw [Int.toNat_natCast] at hc25
     split at hc25 <;> omega
    refine ⟨i + 1, Ent.env ⟨rfl, ?_, rfl, trivial⟩, ⟨by omega, ?_⟩, by omega⟩
    ·
     rw [← e2]; rfl
    ·
     rw [← e2]; rw [Int.toNat_natCast] at hc25; omega
  ·
   try simp only [List.length_map, beq_iff_eq, decide_eq_true_eq, decide_eq_false_iff_not, Bool.not_eq_true', Bool.not_eq_false', Bool.not_true, Bool.not_false, Int.not_lt, Int.not_le] at hc15
   refine AWP.exit ?_
   refine AWP.seq ?_
   refine AWP.region ?_
   refine AOps.step (Val.of hσ rfl rfl) rfl rfl rfl ?_
   refine AOps.step (Val.of hσ rfl rfl) rfl rfl rfl ?_
   refine AOps.nil ?_
   refine AWP.ret ?_
   refine ⟨.inl rfl, _, Ent.refl, _, rfl, ?_⟩
   obtain rfl : i = ts.length := by omega
   have e4 := hi.2
   rw [List.take_length] at e4 ⊢
   rw [show szr left (Al.szs Tm.size ts) = left - ts.length - (ts.map Tm.size).sum from by unfold szr Al.szs; rw [if_neg (by omega)]; omega]
end Go.Al
namespace Go.Al
open Go.Proofs
set_option linter.unusedVariables false
set_option linter.unusedSimpArgs false
set_option maxRecDepth 10000

theorem c35 {L : Nat} (h1 : 4096 ≤ L) (h2 : L ≤ 1073741824) {xs ys : List Tm} : MC Try.prog L 22 [atms xs, atms ys] [] (Plain (eB (decide (xs = ys)))) := by
 refine MC.alone ?_ rfl
 have hσ := SGok (nt := 27) h1 (Nat.le_trans h2 (by decide))
 refine MC.body hσ Try.func22 (by kernel_rfl) rfl rfl (Nat.le_of_ble_eq_true rfl) (fun hF => ?_)
 have hl : xs.length ≤ L := by simpa [As.fact, A.fact, M.fact, D.fact, Ds.fact] using hF.1.1
 have hl2 : ys.length ≤ L := by simpa [As.fact, A.fact, M.fact, D.fact, Ds.fact] using hF.2.1.1
 refine AWP.seq ?_
 refine AWP.region ?_
 refine AOps.step (Val.of hσ rfl rfl) rfl rfl rfl ?_
 refine AOps.nil ?_
 refine AWP.seq ?_
 refine AWP.seq ?_
 refine AWP.region ?_
 refine AOps.step (Val.of hσ rfl rfl) rfl rfl rfl ?_
 first | refine AOps.step (Val.lenD hσ rfl rfl rfl rfl rfl rfl rfl rfl) rfl rfl rfl ?_ | refine AOps.step (Val.of hσ rfl rfl) rfl rfl rfl ?_ | refine AOps.step (Val.vif hσ rfl rfl (by first | omega | (simp at *; omega))) rfl rfl rfl ?_
 refine AOps.step (Val.of hσ rfl rfl) rfl rfl rfl ?_
 first | refine AOps.step (Val.lenD hσ rfl rfl rfl rfl rfl rfl rfl rfl) rfl rfl rfl ?_ | refine AOps.step (Val.of hσ rfl rfl) rfl rfl rfl ?_ | refine AOps.step (Val.vif hσ rfl rfl (by first | omega | (simp at *; omega))) rfl rfl rfl ?_
 refine AOps.step (Val.of hσ rfl rfl) rfl rfl rfl ?_
 refine AOps.nil ?_
 refine AWP.cond hσ rfl rfl (fun hc10 => ?_) (fun hc10 => ?_)
 ·
  try simp only [List.length_map, beq_iff_eq, decide_eq_true_eq, decide_eq_false_iff_not, Bool.not_eq_true', Bool.not_eq_false', Bool.not_true, Bool.not_false, Int.not_lt, Int.not_le] at hc10
  refine AWP.seq ?_
  refine AWP.region ?_
  refine AOps.step (Val.of hσ rfl rfl) rfl rfl rfl ?_
  refine AOps.nil ?_
  refine AWP.ret ?_
  refine ⟨.inl rfl, _, Ent.refl, _, rfl, ?_⟩
  rw [decide_eq_false (fun e => by subst e; simp at hc10)]
 ·
  try simp only [List.length_map, beq_iff_eq, decide_eq_true_eq, decide_eq_false_iff_not, Bool.not_eq_true', Bool.not_eq_false', Bool.not_true, Bool.not_false, Int.not_lt, Int.not_le] at hc10
  refine AWP.skip ?_
  refine AWP.seq ?_
  refine AWP.seq ?_
  refine AWP.region ?_
  refine AOps.step (Val.of hσ rfl rfl) rfl rfl rfl ?_
  refine AOps.nil ?_
  refine AWP.block ?_
  refine AWP.loopP (X := Nat) (fun i => ⟨[(0, atms xs), (1, atms ys), (5, eI i)], []⟩) (fun i => i ≤ xs.length ∧ ∀ j, j < i → xs[j]? = ys[j]?) (fun i => xs.length - i) 0 (Ent.env ⟨rfl, rfl, rfl, trivial⟩) ?_ (fun i hi => ?_)
  ·
   exact ⟨Nat.zero_le _, fun j hj => absurd hj (Nat.not_lt_zero j)⟩
  refine AWP.seq ?_
  refine AWP.seq ?_
  refine AWP.region ?_
  refine AOps.step (Val.of hσ rfl rfl) rfl rfl rfl ?_
  refine AOps.step (Val.of hσ rfl rfl) rfl rfl rfl ?_
  first | refine AOps.step (Val.lenD hσ rfl rfl rfl rfl rfl rfl rfl rfl) rfl rfl rfl ?_ | refine AOps.step (Val.of hσ rfl rfl) rfl rfl rfl ?_ | refine AOps.step (Val.vif hσ rfl rfl (by first | omega | (simp at *; omega))) rfl rfl rfl ?_
  refine AOps.step (Val.of hσ rfl rfl) rfl rfl rfl ?_
  refine AOps.nil ?_
  refine AWP.cond hσ rfl rfl (fun hc14 => ?_) (fun hc14 => ?_)
  ·
   try simp only [List.length_map, beq_iff_eq, decide_eq_true_eq, decide_eq_false_iff_not, Bool.not_eq_true', Bool.not_eq_false', Bool.not_true, Bool.not_false, Int.not_lt, Int.not_le] at hc14
   refine AWP.skip ?_
   refine AWP.seq ?_
   refine AWP.block ?_
   refine AWP.seq ?_
   refine AWP.drawR hσ _ [_, _, _, _, _, _, _, _, _, _] [⟨[], 0, 0, none⟩, ⟨[], 0, 0, none⟩, ⟨[0, 1], 0, 0, none⟩, ⟨[0, 1, 2], 0, 0, none⟩, ⟨[], 0, 0, none⟩, ⟨[], 0, 0, none⟩, ⟨[4, 5], 0, 0, none⟩, ⟨[4, 5, 6], 0, 0, none⟩, ⟨[0, 1, 2, 3, 4, 5, 6, 7], 0, 0, some 0⟩, ⟨[0, 1, 2, 3, 4, 5, 6, 7, 8], 1, 1, none⟩] [8] [_, _] rfl rfl (by decide) (by decide) (by kernel_rfl) (And.intro (Val.of hσ rfl rfl) (And.intro (Val.of hσ rfl rfl) (And.intro (Val.indexD hσ rfl rfl rfl rfl rfl rfl rfl rfl (by first | omega | (simp at *; omega)) (idx_get (by first | omega | (simp at *; omega)) (by first | omega | (simp at *; omega)))) (And.intro (Val.of hσ rfl rfl) (And.intro (Val.of hσ rfl rfl) (And.intro (Val.of hσ rfl rfl) (And.intro (Val.indexD hσ rfl rfl rfl rfl rfl rfl rfl rfl (by first | omega | (simp at *; omega)) (idx_get (by first | omega | (simp at *; omega)) (by first | omega | (simp at *; omega)))) (And.intro (Val.of hσ rfl rfl) (And.intro (Eff.lone hσ (B0 := 26000) rfl rfl rfl rfl (c92 h1 h2) (VAs.self rfl) rfl rfl rfl rfl rfl) (And.intro (Val.of hσ rfl rfl) trivial)))))))))) ?_
   refine AWP.cond hσ rfl rfl (fun hc26 => ?_) (fun hc26 => ?_)
   ·
    try simp only [List.length_map, beq_iff_eq, decide_eq_true_eq, decide_eq_false_iff_not, Bool.not_eq_true', Bool.not_eq_false', Bool.not_true, Bool.not_false, Int.not_lt, Int.not_le] at hc26
    refine AWP.seq ?_
    refine AWP.region ?_
    refine AOps.step (Val.of hσ rfl rfl) rfl rfl rfl ?_
    refine AOps.nil ?_
    refine AWP.ret ?_
    refine ⟨.inl rfl, _, Ent.refl, _, rfl, ?_⟩
    rw [decide_eq_false (fun e => by subst e; simp at hc26)]
   ·
    try simp only [List.length_map, beq_iff_eq, decide_eq_true_eq, decide_eq_false_iff_not, Bool.not_eq_true', Bool.not_eq_false', Bool.not_true, Bool.not_false, Int.not_lt, Int.not_le] at hc26
    refine AWP.skip ?_
    refine AWP.region ?_
    refine AOps.step (Val.of hσ rfl rfl) rfl rfl rfl ?_
    first | refine AOps.step (Val.fits64 hσ rfl rfl (by first | omega | (simp at *; omega)) (by first | omega | (simp at *; omega))) rfl rfl rfl ?_ | refine AOps.step (Val.vif hσ rfl rfl (by first | omega | (simp at *; omega))) rfl rfl rfl ?_
    refine AOps.step (Val.of hσ rfl rfl) rfl rfl rfl ?_
    refine AOps.nil ?_
    refine ⟨i + 1, Ent.env ⟨rfl, rfl, rfl, trivial⟩, ⟨by omega, fun j hj => ?_⟩, by omega⟩
    rcases Nat.lt_or_ge j i with h | h
    ·
     exact hi.2 j h
    ·
     obtain rfl : j = i := by omega
     rw [Int.toNat_natCast, getD_lt (by omega), getD_lt (by omega)] at hc26
     rw [List.getElem?_eq_getElem (by omega), List.getElem?_eq_getElem (by omega), hc26]
  ·
   try simp only [List.length_map, beq_iff_eq, decide_eq_true_eq, decide_eq_false_iff_not, Bool.not_eq_true', Bool.not_eq_false', Bool.not_true, Bool.not_false, Int.not_lt, Int.not_le] at hc14
   refine AWP.exit ?_
   refine AWP.seq ?_
   refine AWP.region ?_
   refine AOps.step (Val.of hσ rfl rfl) rfl rfl rfl ?_
   refine AOps.nil ?_
   refine AWP.ret ?_
   refine ⟨.inl rfl, _, Ent.refl, _, rfl, ?_⟩
   have e : xs = ys := List.ext_getElem? fun j => by
    rcases Nat.lt_or_ge j i with h | h
    ·
     exact hi.2 j h
    ·
     rw [List.getElem?_eq_none (by omega), List.getElem?_eq_none (by omega)]
   rw [decide_eq_true e]
theorem c59 {L : Nat} (h1 : 4096 ≤ L) (h2 : L ≤ 1073741824) {ts : List Tm} : MC Try.prog L 16 [atms ts] [] (Rows (.c (.rs 0 0 ts.length)) [trow ts]) := by
 refine MC.rows ?_
 have hσ := SGok (nt := 23) h1 (Nat.le_trans h2 (by decide))
 refine MC.body hσ Try.func16 (by kernel_rfl) rfl rfl (Nat.le_of_ble_eq_true rfl) (fun hF => ?_)
 have hl : ts.length ≤ L := by simpa [As.fact, A.fact, M.fact, D.fact, Ds.fact] using hF.1.1
 refine AWP.seq ?_
 refine AWP.region ?_
 refine AOps.step (Val.of hσ rfl rfl) rfl rfl rfl ?_
 refine AOps.nil ?_
 refine AWP.seq ?_
 refine AWP.region ?_
 refine AOps.step (Val.of hσ rfl rfl) rfl rfl rfl ?_
 first | refine AOps.step (Val.lenD hσ rfl rfl rfl rfl rfl rfl rfl rfl) rfl rfl rfl ?_ | refine AOps.step (Val.of hσ rfl rfl) rfl rfl rfl ?_ | refine AOps.step (Val.vif hσ rfl rfl (by first | omega | (simp at *; omega))) rfl rfl rfl ?_
 refine AOps.heap (HS.make hσ rfl rfl rfl rfl rfl rfl rfl rfl rfl (by first | omega | (simp at *; omega)) (by first | omega | (simp at *; omega)) (by first | omega | (simp at *; omega)) (by first | omega | (dsimp only; omega) | (simp at *; omega)) (by first | omega | (simp at *; omega)) rfl rfl rfl) rfl ?_
 refine AOps.step (Val.of hσ rfl rfl) rfl rfl rfl ?_
 refine AOps.nil ?_
 refine AWP.seq ?_
 refine AWP.seq ?_
 refine AWP.region ?_
 refine AOps.step (Val.of hσ rfl rfl) rfl rfl rfl ?_
 refine AOps.nil ?_
 refine AWP.block ?_
 refine AWP.loopP (X := Nat × List Tm) (fun x => ⟨[(0, atms ts), (3, .c (.rs 7 0 ts.length)), (4, eI x.1)], [(7, trow x.2)]⟩) (fun x => x.1 ≤ ts.length ∧ x.2.length = ts.length ∧ ∀ j, j < x.1 → x.2[j]? = ts[j]?) (fun x => ts.length - x.1) (0, List.replicate ts.length ⟨0, []⟩) ((Ent.rowLe 7 rfl (NLess.replicate (.cons .refl (.cons (.nil (sz := 1)) .nil)))).trans (Ent.to ⟨rfl, rfl, rfl, trivial⟩ (by simp [ins, rowAt, trow]))) ?_ (fun x hi => ?_)
 ·
  exact ⟨Nat.zero_le _, List.length_replicate, fun j hj => absurd hj (Nat.not_lt_zero j)⟩
 refine AWP.seq ?_
 refine AWP.seq ?_
 refine AWP.region ?_
 refine AOps.step (Val.of hσ rfl rfl) rfl rfl rfl ?_
 refine AOps.step (Val.of hσ rfl rfl) rfl rfl rfl ?_
 first | refine AOps.step (Val.lenD hσ rfl rfl rfl rfl rfl rfl rfl rfl) rfl rfl rfl ?_ | refine AOps.step (Val.of hσ rfl rfl) rfl rfl rfl ?_ | refine AOps.step (Val.vif hσ rfl rfl (by first | omega | (simp at *; omega))) rfl rfl rfl ?_
 refine AOps.step (Val.of hσ rfl rfl) rfl rfl rfl ?_
 refine AOps.nil ?_
 refine AWP.cond hσ rfl rfl (fun hc11 => ?_) (fun hc11 => ?_)
 ·
  try simp only [List.length_map, beq_iff_eq, decide_eq_true_eq, decide_eq_false_iff_not, Bool.not_eq_true', Bool.not_eq_false', Bool.not_true, Bool.not_false, Int.not_lt, Int.not_le] at hc11
  refine AWP.skip ?_
  refine AWP.seq ?_
  refine AWP.block ?_
  refine AWP.region ?_
  refine AOps.step (Val.of hσ rfl rfl) rfl rfl rfl ?_
  refine AOps.step (Val.of hσ rfl rfl) rfl rfl rfl ?_
  refine AOps.step (Val.of hσ rfl rfl) rfl rfl rfl ?_
  refine AOps.step (Val.of hσ rfl rfl) rfl rfl rfl ?_
  first | refine AOps.step (Val.indexD hσ rfl rfl rfl rfl rfl rfl rfl rfl (by first | omega | (simp at *; omega)) (idx_get (by first | omega | (simp at *; omega)) (by first | omega | (simp at *; omega)))) rfl rfl rfl ?_ | refine AOps.step (Val.vif hσ rfl rfl (by first | omega | (simp at *; omega))) rfl rfl rfl ?_
  refine AOps.step (Val.of hσ rfl rfl) rfl rfl rfl ?_
  refine AOps.rows hσ (B0 := 21000) rfl rfl rfl rfl (c87 h1 h2) (VAs.self rfl) rfl rfl rfl rfl rfl rfl ?_
  first | refine AOps.step (Val.indexD hσ rfl rfl rfl rfl rfl rfl rfl rfl (by first | omega | (simp at *; omega)) (idx_get (by first | omega | (simp at *; omega)) (by first | omega | (simp at *; omega)))) rfl rfl rfl ?_ | refine AOps.step (Val.vif hσ rfl rfl (by first | omega | (simp at *; omega))) rfl rfl rfl ?_
  refine AOps.heap (HS.storeAbs (ex := (x.2.getD x.1 default).cells) (xs' := (x.2.set x.1 (ts.getD x.1 default)).map Tm.cells) hσ rfl rfl rfl rfl rfl rfl rfl (.d rfl (.rs rfl (by simp) .nil)) rfl rfl rfl rfl rfl rfl (by simp [hi.2.1, show x.1 < ts.length by omega]) (by simp [List.map_set])) rfl ?_
  refine AOps.nil ?_
  refine AWP.region ?_
  refine AOps.step (Val.of hσ rfl rfl) rfl rfl rfl ?_
  first | refine AOps.step (Val.fits64 hσ rfl rfl (by first | omega | (simp at *; omega)) (by first | omega | (simp at *; omega))) rfl rfl rfl ?_ | refine AOps.step (Val.vif hσ rfl rfl (by first | omega | (simp at *; omega))) rfl rfl rfl ?_
  refine AOps.step (Val.of hσ rfl rfl) rfl rfl rfl ?_
  refine AOps.nil ?_
  refine ⟨(x.1 + 1, x.2.set x.1 (ts.getD x.1 default)), Ent.to ⟨rfl, rfl, rfl, trivial⟩ rfl, ⟨by omega, by simp [hi.2.1], fun j hj => ?_⟩, by omega⟩
  rw [List.getElem?_set]
  split
  ·
   rename_i e; subst e; simp [hi.2.1, show x.1 < ts.length by omega]
  ·
   exact hi.2.2 j (by omega)
 ·
  try simp only [List.length_map, beq_iff_eq, decide_eq_true_eq, decide_eq_false_iff_not, Bool.not_eq_true', Bool.not_eq_false', Bool.not_true, Bool.not_false, Int.not_lt, Int.not_le] at hc11
  refine AWP.exit ?_
  refine AWP.seq ?_
  refine AWP.region ?_
  refine AOps.step (Val.of hσ rfl rfl) rfl rfl rfl ?_
  refine AOps.step (Val.of hσ rfl rfl) rfl rfl rfl ?_
  refine AOps.nil ?_
  refine AWP.ret ?_
  have e : x.2 = ts := List.ext_getElem? fun j => by
   rcases Nat.lt_or_ge j x.1 with h | h
   ·
    exact hi.2.2 j h
   ·
    rw [List.getElem?_eq_none (by omega), List.getElem?_eq_none (by omega)]
  refine ⟨.inl rfl, _, Ent.refl, _, rfl, [7], by decide, rfl, rfl, ?_⟩
  rw [← e]; rfl
end Go.Al
namespace Go.Al
open Go.Proofs
set_option linter.unusedVariables false
set_option linter.unusedSimpArgs false
set_option maxRecDepth 10000
structure Sm where
  kind : Int
  var : Int
  event : Int
  sum : Tm
  index : Tm
  facts : List Tm
  deriving Inhabited, DecidableEq
abbrev Sm.cells (s : Sm) : List D := [.int .i64 s.kind, .int .i64 s.var, .int .i64 s.event, .int .i64 s.sum.c, ints s.sum.xs, .int .i64 s.index.c, ints s.index.xs, tms s.facts]
abbrev aSm (s : Sm) : A := .agg (s.cells.map .d)
def Sm.size (s : Sm) : Nat := s.sum.size + s.index.size + szs Tm.size s.facts
theorem szr_le {left : Int} (h : 0 ≤ left) (n : Nat) : szr left n ≤ left := by unfold szr; split <;> omega
theorem szr_add {left : Int} {a : Nat} (b : Nat) (h : 0 ≤ szr left a) : szr (szr left a) b = szr left (a + b) := by unfold szr at *; split at h <;> repeat' (first | omega | split)
theorem szr_neg {left : Int} {a : Nat} (b : Nat) (h : szr left a < 0) : szr left (a + b) = -1 := by unfold szr at *; split at h <;> repeat' (first | omega | split)

abbrev sms (ts : List Sm) : D := .slc 8 (ts.map Sm.cells)
abbrev srow (ts : List Sm) : B := .row true 8 (ts.map Sm.cells)
end Go.Al
namespace Go.Al
open Go.Proofs
set_option linter.unusedVariables false
set_option linter.unusedSimpArgs false
set_option maxRecDepth 10000
structure Pm where
  pre : List Tm
  body : List Sm
  post : List Tm
  deriving Inhabited, DecidableEq
structure Sx where
  vars : List Int
  cells : List Int
  deriving Inhabited, DecidableEq
abbrev Pm.data (p : Pm) : List D := [tms p.pre, sms p.body, tms p.post]
abbrev Sx.data (s : Sx) : List D := [ints s.vars, ints s.cells]
abbrev aPm (p : Pm) : A := .agg (p.data.map .d)
abbrev aSx (s : Sx) : A := .agg (s.data.map .d)

end Go.Al
namespace Go.Al
open Go.Proofs
set_option linter.unusedVariables false
set_option linter.unusedSimpArgs false
set_option maxRecDepth 10000
/-- What a list comes to if its elements are marked with rising numbers. -/
def markL {α : Type} (f : Int → α → α) (sz : α → Nat) : Int → List α → List α
  | _, [] => []
  | k, a :: r => f k a :: markL f sz (k + sz a) r
def cnt {α : Type} (sz : α → Nat) (l : List α) : Nat := (l.map sz).sum
def mk {α : Type} (f : Int → α → α) (sz : α → Nat) (k : Int) (i : Nat) (l : List α) : List α := markL f sz k (l.take i) ++ l.drop i
section
variable {α : Type} {f : Int → α → α} {sz : α → Nat}
theorem markL_length : ∀ {k : Int} {l : List α}, (markL f sz k l).length = l.length
  | _, [] => rfl
  | _, a :: r => by simp [markL, markL_length]
theorem mk_length {k : Int} {i : Nat} {l : List α} : (mk f sz k i l).length = l.length := by
  simp [mk, markL_length]; omega
theorem mk_zero {k : Int} {l : List α} : mk f sz k 0 l = l := by simp [mk, markL]
theorem mk_all {k : Int} {i : Nat} {l : List α} (h : l.length ≤ i) : mk f sz k i l = markL f sz k l := by
  simp [mk, List.take_of_length_le h, List.drop_of_length_le h]
theorem mk_get {k : Int} {i : Nat} {l : List α} (h : i < l.length) : (mk f sz k i l)[i]? = some l[i] := by
  rw [mk, List.getElem?_append_right (by simp [markL_length]; omega)]
  simp [markL_length, Nat.min_eq_left (Nat.le_of_lt h)]
theorem markL_snoc : ∀ {k : Int} {l : List α} {a : α}, markL f sz k (l ++ [a]) = markL f sz k l ++ [f (k + cnt sz l) a]
  | k, [], a => by simp [markL, cnt]
  | k, b :: r, a => by
    have : k + (sz b : Int) + (cnt sz r : Int) = k + (cnt sz (b :: r) : Int) := by simp [cnt]; omega
    simp [markL, markL_snoc, this]
theorem cnt_succ {l : List α} {i : Nat} (h : i < l.length) : cnt sz (l.take (i + 1)) = cnt sz (l.take i) + sz l[i] := by
  rw [List.take_succ_eq_append_getElem h]
  simp only [cnt, List.map_append, List.sum_append, List.map_cons, List.map_nil, List.sum_cons, List.sum_nil]; omega
theorem cnt_le {l : List α} {i : Nat} : cnt sz (l.take i) ≤ cnt sz l := by
  have : cnt sz l = cnt sz (l.take i) + cnt sz (l.drop i) := by rw [cnt, cnt, cnt, ← List.sum_append, ← List.map_append, List.take_append_drop]
  omega
theorem mk_succ {k : Int} {i : Nat} {l : List α} (h : i < l.length) : (mk f sz k i l).set i (f (k + cnt sz (l.take i)) l[i]) = mk f sz k (i + 1) l := by
  have h1 : (markL f sz k (l.take i)).length = i := by rw [markL_length, List.length_take]; omega
  rw [mk, List.set_append_right _ _ (by omega), h1, Nat.sub_self, mk, List.take_succ_eq_append_getElem h, markL_snoc, List.drop_eq_getElem_cons h, List.set_cons_zero]
  simp only [List.append_assoc, List.singleton_append]
end
abbrev mI : Int → Int → Int := fun k _ => k
abbrev oneI : Int → Nat := fun _ => 1
theorem cnt_oneI {l : List Int} : cnt oneI l = l.length := by
  induction l with
  | nil => rfl
  | cons a r ih =>
    have : oneI a = 1 := rfl
    simp only [cnt, List.map_cons, List.sum_cons, List.length_cons] at ih ⊢; omega
theorem markI_get {k : Int} {xs : List Int} {j : Nat} (h : j < xs.length) : (markL mI oneI k xs)[j]? = some (k + j) := by
  have h1 := mk_get (f := mI) (sz := oneI) (k := k) (l := xs) h
  have h2 := mk_succ (f := mI) (sz := oneI) (k := k) (l := xs) h
  have h3 : (mk mI oneI k (j + 1) xs)[j]? = some (k + j) := by
    rw [← h2, List.getElem?_set]
    have e : cnt oneI (xs.take j) = j := by rw [cnt_oneI, List.length_take]; omega
    simp [mk_length, h, e]
  have h4 : (mk mI oneI k (j + 1) xs)[j]? = (markL mI oneI k (xs.take (j + 1)))[j]? := by
    rw [mk, List.getElem?_append_left (by rw [markL_length, List.length_take]; omega)]
  have key : ∀ {k : Int} {l : List Int} {n j : Nat}, j < n → (markL mI oneI k (l.take n))[j]? = (markL mI oneI k l)[j]? := by
    intro k l
    induction l generalizing k with
    | nil => intro n j _; simp
    | cons a r ih =>
      intro n j hj
      cases n with
      | zero => omega
      | succ n =>
        cases j with
        | zero => simp [markL]
        | succ j => simp only [List.take_succ_cons, markL, List.getElem?_cons_succ]; exact ih (by omega)
  rw [← key (Nat.lt_succ_self j), ← h4, h3]
abbrev mT : Int → Tm → Tm := fun k t => ⟨k, markL mI oneI (k + 1) t.xs⟩
abbrev nT : Tm → Nat := fun t => 1 + t.xs.length
abbrev mS : Int → Sm → Sm := fun k s =>
  ⟨k, k + 1, k + 1 + 1, ⟨k + 1 + 1 + 1, markL mI oneI (k + 1 + 1 + 1 + 1) s.sum.xs⟩, ⟨k + 1 + 1 + 1 + 1 + s.sum.xs.length, markL mI oneI (k + 1 + 1 + 1 + 1 + s.sum.xs.length + 1) s.index.xs⟩, markL mT nT (k + 1 + 1 + 1 + 1 + s.sum.xs.length + 1 + s.index.xs.length) s.facts⟩
abbrev nS : Sm → Nat := fun s => 5 + s.sum.xs.length + s.index.xs.length + cnt nT s.facts

theorem c19 {L : Nat} (h1 : 4096 ≤ L) (h2 : L ≤ 1073741824) {xs : List Int} {k : Int} (hk0 : 0 ≤ k) (hk1 : k ≤ 1073741824) : MC Try.prog L 56 [.c (.rs 0 0 xs.length), eI k] [(0, nrow xs)] (Outs (eI (k + xs.length)) [(0, nrow (markL mI oneI k xs))]) := by
 have hσ := SgOk.withIns (js := [0]) (SGok (nt := 19) h1 (Nat.le_trans h2 (by decide)))
 refine MC.bodyH hσ Try.func56 (by kernel_rfl) rfl rfl rfl (Nat.le_of_ble_eq_true rfl) (fun hF => ?_)
 refine AWP.factH 0 rfl (fun hB => ?_)
 have hl : xs.length ≤ L := by simpa [B.fact] using hB.1
 refine AWP.seq ?_
 refine AWP.region ?_
 refine AOps.step (Val.of hσ rfl rfl) rfl rfl rfl ?_
 refine AOps.nil ?_
 refine AWP.seq ?_
 refine AWP.seq ?_
 refine AWP.region ?_
 refine AOps.step (Val.of hσ rfl rfl) rfl rfl rfl ?_
 refine AOps.nil ?_
 refine AWP.block ?_
 refine AWP.loopP (X := Nat) (fun i => ⟨[(0, .c (.rs 0 0 xs.length)), (1, eI (k + i)), (5, eI i)], [(0, nrow (mk mI oneI k i xs))]⟩) (fun i => i ≤ xs.length) (fun i => xs.length - i) 0 (Ent.to ⟨rfl, by simp [numbered, lk_cons], rfl, trivial⟩ (by simp [mk_zero])) ?_ (fun i hi => ?_)
 ·
  exact Nat.zero_le _
 refine AWP.seq ?_
 refine AWP.seq ?_
 refine AWP.region ?_
 refine AOps.step (Val.of hσ rfl rfl) rfl rfl rfl ?_
 refine AOps.step (Val.of hσ rfl rfl) rfl rfl rfl ?_
 first | refine AOps.step (Val.lenD hσ rfl rfl rfl rfl rfl rfl rfl rfl) rfl rfl rfl ?_ | refine AOps.step (Val.of hσ rfl rfl) rfl rfl rfl ?_ | refine AOps.step (Val.vif hσ rfl rfl (by first | omega | (simp at *; omega))) rfl rfl rfl ?_
 refine AOps.step (Val.of hσ rfl rfl) rfl rfl rfl ?_
 refine AOps.nil ?_
 refine AWP.cond hσ rfl rfl (fun hc9 => ?_) (fun hc9 => ?_)
 ·
  try simp only [List.length_map, beq_iff_eq, decide_eq_true_eq, decide_eq_false_iff_not, Bool.not_eq_true', Bool.not_eq_false', Bool.not_true, Bool.not_false, Int.not_lt, Int.not_le] at hc9
  refine AWP.skip ?_
  refine AWP.seq ?_
  refine AWP.block ?_
  refine AWP.seq ?_
  refine AWP.region ?_
  refine AOps.step (Val.of hσ rfl rfl) rfl rfl rfl ?_
  refine AOps.step (Val.of hσ rfl rfl) rfl rfl rfl ?_
  refine AOps.step (Val.of hσ rfl rfl) rfl rfl rfl ?_
  first | refine AOps.step (Val.indexD hσ rfl rfl rfl rfl rfl rfl rfl rfl (by first | omega | (simp at *; omega)) (idx_get (by first | omega | (simp at *; omega)) (by first | omega | (simp at *; omega)))) rfl rfl rfl ?_ | refine AOps.step (Val.vif hσ rfl rfl (by first | omega | (simp at *; omega))) rfl rfl rfl ?_
  refine AOps.heap (HS.storeRow (ex := [.int .i64 (xs.getD i default)]) (xs' := (mk mI oneI k (i + 1) xs).map fun n => [.int .i64 n]) hσ rfl rfl rfl rfl rfl rfl rfl rfl rfl rfl rfl rfl rfl rfl (by simp [mk_get (f := mI) (sz := oneI) (k := k) (show i < xs.length by omega), show i < xs.length by omega]) (by rw [← mk_succ (show i < xs.length by omega), cnt_oneI, List.length_take, Nat.min_eq_left hi]; simp [List.map_set])) rfl ?_
  refine AOps.nil ?_
  refine AWP.region ?_
  refine AOps.step (Val.of hσ rfl rfl) rfl rfl rfl ?_
  first | refine AOps.step (Val.fits64 hσ rfl rfl (by first | omega | (simp at *; omega)) (by first | omega | (simp at *; omega))) rfl rfl rfl ?_ | refine AOps.step (Val.vif hσ rfl rfl (by first | omega | (simp at *; omega))) rfl rfl rfl ?_
  refine AOps.step (Val.of hσ rfl rfl) rfl rfl rfl ?_
  refine AOps.nil ?_
  refine AWP.region ?_
  refine AOps.step (Val.of hσ rfl rfl) rfl rfl rfl ?_
  first | refine AOps.step (Val.fits64 hσ rfl rfl (by first | omega | (simp at *; omega)) (by first | omega | (simp at *; omega))) rfl rfl rfl ?_ | refine AOps.step (Val.vif hσ rfl rfl (by first | omega | (simp at *; omega))) rfl rfl rfl ?_
  refine AOps.step (Val.of hσ rfl rfl) rfl rfl rfl ?_
  refine AOps.nil ?_
  refine ⟨i + 1, Ent.to ⟨rfl, ?_, rfl, trivial⟩ rfl, by omega, by omega⟩
  show some (eI (k + i + 1)) = some (eI (k + (i + 1 : Nat)))
  rw [Int.natCast_add, ← Int.add_assoc]; rfl
 ·
  try simp only [List.length_map, beq_iff_eq, decide_eq_true_eq, decide_eq_false_iff_not, Bool.not_eq_true', Bool.not_eq_false', Bool.not_true, Bool.not_false, Int.not_lt, Int.not_le] at hc9
  refine AWP.exit ?_
  refine AWP.seq ?_
  refine AWP.region ?_
  refine AOps.step (Val.of hσ rfl rfl) rfl rfl rfl ?_
  refine AOps.step (Val.of hσ rfl rfl) rfl rfl rfl ?_
  refine AOps.nil ?_
  refine AWP.ret ?_
  refine ⟨.inl rfl, _, Ent.refl, _, rfl, ?_⟩
  obtain rfl : i = xs.length := by omega
  rw [mk_all (Nat.le_refl _)]
  exact ⟨rfl, rfl⟩
theorem c21 {L : Nat} (h1 : 4096 ≤ L) (h2 : L ≤ 1073741824) {xs : List Int} {k : Int} (hk0 : 0 ≤ k) (hk1 : k ≤ 1073741824) : MC Try.prog L 57 [aints xs, eI k] [] (Plain (eI (if xs = markL mI oneI k xs then k + xs.length else -1))) := by
 refine MC.alone ?_ rfl
 have hσ := SGok (nt := 21) h1 (Nat.le_trans h2 (by decide))
 refine MC.body hσ Try.func57 (by kernel_rfl) rfl rfl (Nat.le_of_ble_eq_true rfl) (fun hF => ?_)
 have hl : xs.length ≤ L := by simpa [As.fact, A.fact, M.fact, D.fact, Ds.fact] using hF.1.1
 refine AWP.seq ?_
 refine AWP.region ?_
 refine AOps.step (Val.of hσ rfl rfl) rfl rfl rfl ?_
 refine AOps.nil ?_
 refine AWP.seq ?_
 refine AWP.seq ?_
 refine AWP.region ?_
 refine AOps.step (Val.of hσ rfl rfl) rfl rfl rfl ?_
 refine AOps.nil ?_
 refine AWP.block ?_
 refine AWP.loopP (X := Nat) (fun i => ⟨[(0, aints xs), (1, eI (k + i)), (5, eI i)], []⟩) (fun i => i ≤ xs.length ∧ ∀ j, j < i → xs[j]? = some (k + j)) (fun i => xs.length - i) 0 (Ent.env ⟨rfl, by simp [numbered, lk_cons], rfl, trivial⟩) ?_ (fun i hi => ?_)
 ·
  exact ⟨Nat.zero_le _, fun j hj => absurd hj (Nat.not_lt_zero j)⟩
 refine AWP.seq ?_
 refine AWP.seq ?_
 refine AWP.region ?_
 refine AOps.step (Val.of hσ rfl rfl) rfl rfl rfl ?_
 refine AOps.step (Val.of hσ rfl rfl) rfl rfl rfl ?_
 first | refine AOps.step (Val.lenD hσ rfl rfl rfl rfl rfl rfl rfl rfl) rfl rfl rfl ?_ | refine AOps.step (Val.of hσ rfl rfl) rfl rfl rfl ?_ | refine AOps.step (Val.vif hσ rfl rfl (by first | omega | (simp at *; omega))) rfl rfl rfl ?_
 refine AOps.step (Val.of hσ rfl rfl) rfl rfl rfl ?_
 refine AOps.nil ?_
 refine AWP.cond hσ rfl rfl (fun hc9 => ?_) (fun hc9 => ?_)
 ·
  try simp only [List.length_map, beq_iff_eq, decide_eq_true_eq, decide_eq_false_iff_not, Bool.not_eq_true', Bool.not_eq_false', Bool.not_true, Bool.not_false, Int.not_lt, Int.not_le] at hc9
  refine AWP.skip ?_
  refine AWP.seq ?_
  refine AWP.block ?_
  refine AWP.seq ?_
  refine AWP.seq ?_
  refine AWP.region ?_
  refine AOps.step (Val.of hσ rfl rfl) rfl rfl rfl ?_
  refine AOps.step (Val.of hσ rfl rfl) rfl rfl rfl ?_
  first | refine AOps.step (Val.indexD hσ rfl rfl rfl rfl rfl rfl rfl rfl (by first | omega | (simp at *; omega)) (idx_get (by first | omega | (simp at *; omega)) (by first | omega | (simp at *; omega)))) rfl rfl rfl ?_ | refine AOps.step (Val.vif hσ rfl rfl (by first | omega | (simp at *; omega))) rfl rfl rfl ?_
  refine AOps.step (Val.of hσ rfl rfl) rfl rfl rfl ?_
  refine AOps.step (Val.of hσ rfl rfl) rfl rfl rfl ?_
  refine AOps.step (Val.of hσ rfl rfl) rfl rfl rfl ?_
  refine AOps.nil ?_
  refine AWP.cond hσ rfl rfl (fun hc17 => ?_) (fun hc17 => ?_)
  ·
   try simp only [List.length_map, beq_iff_eq, decide_eq_true_eq, decide_eq_false_iff_not, Bool.not_eq_true', Bool.not_eq_false', Bool.not_true, Bool.not_false, Int.not_lt, Int.not_le] at hc17
   refine AWP.seq ?_
   refine AWP.region ?_
   refine AOps.step (Val.of hσ rfl rfl) rfl rfl rfl ?_
   refine AOps.nil ?_
   refine AWP.ret ?_
   refine ⟨.inl rfl, _, Ent.refl, _, rfl, ?_⟩
   rw [if_neg (fun e => hc17 ?_)]
   have h1 := markI_get (k := k) (show i < xs.length by omega)
   rw [← e, List.getElem?_eq_getElem (by omega)] at h1
   rw [Int.toNat_natCast, getD_lt (by omega)]; simpa using h1
  ·
   try simp only [List.length_map, beq_iff_eq, decide_eq_true_eq, decide_eq_false_iff_not, Bool.not_eq_true', Bool.not_eq_false', Bool.not_true, Bool.not_false, Int.not_lt, Int.not_le] at hc17
   refine AWP.skip ?_
   refine AWP.region ?_
   refine AOps.step (Val.of hσ rfl rfl) rfl rfl rfl ?_
   first | refine AOps.step (Val.fits64 hσ rfl rfl (by first | omega | (simp at *; omega)) (by first | omega | (simp at *; omega))) rfl rfl rfl ?_ | refine AOps.step (Val.vif hσ rfl rfl (by first | omega | (simp at *; omega))) rfl rfl rfl ?_
   refine AOps.step (Val.of hσ rfl rfl) rfl rfl rfl ?_
   refine AOps.nil ?_
   refine AWP.region ?_
   refine AOps.step (Val.of hσ rfl rfl) rfl rfl rfl ?_
   first | refine AOps.step (Val.fits64 hσ rfl rfl (by first | omega | (simp at *; omega)) (by first | omega | (simp at *; omega))) rfl rfl rfl ?_ | refine AOps.step (Val.vif hσ rfl rfl (by first | omega | (simp at *; omega))) rfl rfl rfl ?_
   refine AOps.step (Val.of hσ rfl rfl) rfl rfl rfl ?_
   refine AOps.nil ?_
   refine ⟨i + 1, Ent.env ⟨rfl, ?_, rfl, trivial⟩, ⟨by omega, fun j hj => ?_⟩, by omega⟩
   ·
    show some (eI (k + i + 1)) = some (eI (k + (i + 1 : Nat)))
    rw [Int.natCast_add, ← Int.add_assoc]; rfl
   ·
    rcases Nat.lt_or_ge j i with h | h
    ·
     exact hi.2 j h
    ·
     obtain rfl : j = i := by omega
     rw [Int.toNat_natCast, getD_lt (by omega)] at hc17
     rw [List.getElem?_eq_getElem (by omega)]; simpa using hc17
 ·
  try simp only [List.length_map, beq_iff_eq, decide_eq_true_eq, decide_eq_false_iff_not, Bool.not_eq_true', Bool.not_eq_false', Bool.not_true, Bool.not_false, Int.not_lt, Int.not_le] at hc9
  refine AWP.exit ?_
  refine AWP.seq ?_
  refine AWP.region ?_
  refine AOps.step (Val.of hσ rfl rfl) rfl rfl rfl ?_
  refine AOps.step (Val.of hσ rfl rfl) rfl rfl rfl ?_
  refine AOps.nil ?_
  refine AWP.ret ?_
  refine ⟨.inl rfl, _, Ent.refl, _, rfl, ?_⟩
  obtain rfl : i = xs.length := by omega
  rw [if_pos (List.ext_getElem? fun j => ?_)]
  rcases Nat.lt_or_ge j xs.length with h | h
  ·
   rw [markI_get h]; exact hi.2 j h
  ·
   rw [List.getElem?_eq_none (by omega), List.getElem?_eq_none (by rw [markL_length]; omega)]
end Go.Al
namespace Go.Al
open Go.Proofs
set_option linter.unusedVariables false
set_option linter.unusedSimpArgs false
set_option maxRecDepth 10000

theorem c19n {L : Nat} (h1 : 4096 ≤ L) (h2 : L ≤ 1073741824) {k : Int} : MC Try.prog L 56 [.c (.d (ints [])), eI k] [] (Plain (eI k)) := by
 refine MC.alone ?_ rfl
 have hσ := SGok (nt := 19) h1 (Nat.le_trans h2 (by decide))
 refine MC.body hσ Try.func56 (by kernel_rfl) rfl rfl (Nat.le_of_ble_eq_true rfl) (fun hF => ?_)
 refine AWP.seq ?_
 refine AWP.region ?_
 refine AOps.step (Val.of hσ rfl rfl) rfl rfl rfl ?_
 refine AOps.nil ?_
 refine AWP.seq ?_
 refine AWP.seq ?_
 refine AWP.region ?_
 refine AOps.step (Val.of hσ rfl rfl) rfl rfl rfl ?_
 refine AOps.nil ?_
 refine AWP.block ?_
 refine AWP.loopP (X := Nat) (fun i => ⟨[(0, .c (.d (ints []))), (1, eI k), (5, eI 0)], []⟩) (fun i => True) (fun i => 0) 0 (Ent.env ⟨rfl, rfl, rfl, trivial⟩) ?_ (fun i hi => ?_)
 ·
  trivial
 refine AWP.seq ?_
 refine AWP.seq ?_
 refine AWP.region ?_
 refine AOps.step (Val.of hσ rfl rfl) rfl rfl rfl ?_
 refine AOps.step (Val.of hσ rfl rfl) rfl rfl rfl ?_
 first | refine AOps.step (Val.lenD hσ rfl rfl rfl rfl rfl rfl rfl rfl) rfl rfl rfl ?_ | refine AOps.step (Val.of hσ rfl rfl) rfl rfl rfl ?_ | refine AOps.step (Val.vif hσ rfl rfl (by first | omega | (simp at *; omega))) rfl rfl rfl ?_
 refine AOps.step (Val.of hσ rfl rfl) rfl rfl rfl ?_
 refine AOps.nil ?_
 refine AWP.cond hσ rfl rfl (fun hc9 => ?_) (fun hc9 => ?_)
 ·
  try simp only [List.length_map, beq_iff_eq, decide_eq_true_eq, decide_eq_false_iff_not, Bool.not_eq_true', Bool.not_eq_false', Bool.not_true, Bool.not_false, Int.not_lt, Int.not_le] at hc9
  exact absurd hc9 (by simp)
 ·
  try simp only [List.length_map, beq_iff_eq, decide_eq_true_eq, decide_eq_false_iff_not, Bool.not_eq_true', Bool.not_eq_false', Bool.not_true, Bool.not_false, Int.not_lt, Int.not_le] at hc9
  refine AWP.exit ?_
  refine AWP.seq ?_
  refine AWP.region ?_
  refine AOps.step (Val.of hσ rfl rfl) rfl rfl rfl ?_
  refine AOps.step (Val.of hσ rfl rfl) rfl rfl rfl ?_
  refine AOps.nil ?_
  refine AWP.ret ?_
  refine ⟨.inl rfl, _, Ent.refl, _, rfl, ?_⟩
  first | rfl | skip
theorem c40n {L : Nat} (h1 : 4096 ≤ L) (h2 : L ≤ 1073741824) {k : Int} : MC Try.prog L 25 [.c (.d (tms [])), eI k] [] (Plain (eI k)) := by
 refine MC.alone ?_ rfl
 have hσ := SGok (nt := 27) h1 (Nat.le_trans h2 (by decide))
 refine MC.body hσ Try.func25 (by kernel_rfl) rfl rfl (Nat.le_of_ble_eq_true rfl) (fun hF => ?_)
 refine AWP.seq ?_
 refine AWP.region ?_
 refine AOps.step (Val.of hσ rfl rfl) rfl rfl rfl ?_
 refine AOps.nil ?_
 refine AWP.seq ?_
 refine AWP.seq ?_
 refine AWP.region ?_
 refine AOps.step (Val.of hσ rfl rfl) rfl rfl rfl ?_
 refine AOps.nil ?_
 refine AWP.block ?_
 refine AWP.loopP (X := Nat) (fun i => ⟨[(0, .c (.d (tms []))), (1, eI k), (5, eI 0)], []⟩) (fun i => True) (fun i => 0) 0 (Ent.env ⟨rfl, rfl, rfl, trivial⟩) ?_ (fun i hi => ?_)
 ·
  trivial
 refine AWP.seq ?_
 refine AWP.seq ?_
 refine AWP.region ?_
 refine AOps.step (Val.of hσ rfl rfl) rfl rfl rfl ?_
 refine AOps.step (Val.of hσ rfl rfl) rfl rfl rfl ?_
 first | refine AOps.step (Val.lenD hσ rfl rfl rfl rfl rfl rfl rfl rfl) rfl rfl rfl ?_ | refine AOps.step (Val.of hσ rfl rfl) rfl rfl rfl ?_ | refine AOps.step (Val.vif hσ rfl rfl (by first | omega | (simp at *; omega))) rfl rfl rfl ?_
 refine AOps.step (Val.of hσ rfl rfl) rfl rfl rfl ?_
 refine AOps.nil ?_
 refine AWP.cond hσ rfl rfl (fun hc9 => ?_) (fun hc9 => ?_)
 ·
  try simp only [List.length_map, beq_iff_eq, decide_eq_true_eq, decide_eq_false_iff_not, Bool.not_eq_true', Bool.not_eq_false', Bool.not_true, Bool.not_false, Int.not_lt, Int.not_le] at hc9
  exact absurd hc9 (by simp)
 ·
  try simp only [List.length_map, beq_iff_eq, decide_eq_true_eq, decide_eq_false_iff_not, Bool.not_eq_true', Bool.not_eq_false', Bool.not_true, Bool.not_false, Int.not_lt, Int.not_le] at hc9
  refine AWP.exit ?_
  refine AWP.seq ?_
  refine AWP.region ?_
  refine AOps.step (Val.of hσ rfl rfl) rfl rfl rfl ?_
  refine AOps.step (Val.of hσ rfl rfl) rfl rfl rfl ?_
  refine AOps.nil ?_
  refine AWP.ret ?_
  refine ⟨.inl rfl, _, Ent.refl, _, rfl, ?_⟩
  first | rfl | skip
theorem c40 {L : Nat} (h1 : 4096 ≤ L) (h2 : L ≤ 1073741824) {ts : List Tm} {k : Int} (hk0 : 0 ≤ k) (hk1 : k + cnt nT ts ≤ 1073741824) : MC Try.prog L 25 [.c (.rs 0 0 ts.length), eI k] [(0, trow ts)] (Outs (eI (k + cnt nT ts)) [(0, trow (markL mT nT k ts))]) := by
 have hσ := SgOk.withIns (js := [0]) (SGok (nt := 27) h1 (Nat.le_trans h2 (by decide)))
 refine MC.bodyH hσ Try.func25 (by kernel_rfl) rfl rfl rfl (Nat.le_of_ble_eq_true rfl) (fun hF => ?_)
 refine AWP.factH 0 rfl (fun hB => ?_)
 have hl : ts.length ≤ L := by simpa [B.fact] using hB.1
 refine AWP.seq ?_
 refine AWP.region ?_
 refine AOps.step (Val.of hσ rfl rfl) rfl rfl rfl ?_
 refine AOps.nil ?_
 refine AWP.seq ?_
 refine AWP.seq ?_
 refine AWP.region ?_
 refine AOps.step (Val.of hσ rfl rfl) rfl rfl rfl ?_
 refine AOps.nil ?_
 refine AWP.block ?_
 refine AWP.loopP (X := Nat) (fun i => ⟨[(0, .c (.rs 0 0 ts.length)), (1, eI (k + cnt nT (ts.take i))), (5, eI i)], [(0, trow (mk mT nT k i ts))]⟩) (fun i => i ≤ ts.length) (fun i => ts.length - i) 0 (Ent.to ⟨rfl, by simp [numbered, lk_cons, cnt], rfl, trivial⟩ (by simp [mk_zero])) ?_ (fun i hi => ?_)
 ·
  exact Nat.zero_le _
 refine AWP.seq ?_
 refine AWP.seq ?_
 refine AWP.region ?_
 refine AOps.step (Val.of hσ rfl rfl) rfl rfl rfl ?_
 refine AOps.step (Val.of hσ rfl rfl) rfl rfl rfl ?_
 first | refine AOps.step (Val.lenD hσ rfl rfl rfl rfl rfl rfl rfl rfl) rfl rfl rfl ?_ | refine AOps.step (Val.of hσ rfl rfl) rfl rfl rfl ?_ | refine AOps.step (Val.vif hσ rfl rfl (by first | omega | (simp at *; omega))) rfl rfl rfl ?_
 refine AOps.step (Val.of hσ rfl rfl) rfl rfl rfl ?_
 refine AOps.nil ?_
 refine AWP.cond hσ rfl rfl (fun hc9 => ?_) (fun hc9 => ?_)
 ·
  try simp only [List.length_map, beq_iff_eq, decide_eq_true_eq, decide_eq_false_iff_not, Bool.not_eq_true', Bool.not_eq_false', Bool.not_true, Bool.not_false, Int.not_lt, Int.not_le] at hc9
  refine AWP.skip ?_
  refine AWP.seq ?_
  refine AWP.block ?_
  refine AWP.seq ?_
  refine AWP.region ?_
  refine AOps.step (Val.of hσ rfl rfl) rfl rfl rfl ?_
  refine AOps.step (Val.of hσ rfl rfl) rfl rfl rfl ?_
  refine AOps.step (Val.of hσ rfl rfl) rfl rfl rfl ?_
  first | refine AOps.step (Val.indexD hσ rfl rfl rfl rfl rfl rfl rfl rfl (by first | omega | (simp at *; omega)) (idx_get (by first | omega | (simp at *; omega)) (by first | omega | (simp at *; omega)))) rfl rfl rfl ?_ | refine AOps.step (Val.vif hσ rfl rfl (by first | omega | (simp at *; omega))) rfl rfl rfl ?_
  refine AOps.step (Val.of hσ rfl rfl) rfl rfl rfl ?_
  have hcs := cnt_succ (sz := nT) (show i < ts.length by omega)
  have hcl := cnt_le (sz := nT) (l := ts) (i := i + 1)
  have hg := mk_get (f := mT) (sz := nT) (k := k) (show i < ts.length by omega)
  have hs := mk_succ (f := mT) (sz := nT) (k := k) (show i < ts.length by omega)
  rw [← getD_lt (show i < ts.length by omega)] at hcs hg hs
  obtain ⟨t, ht⟩ : ∃ t, t = ts.getD i default := ⟨_, rfl⟩
  rw [← ht] at hcs hg hs
  simp only [nT] at hcs
  have hgl : i < (mk mT nT k i ts).length := by rw [mk_length]; omega
  refine AOps.heap (HS.storeRow (ex := Tm.cells t) (xs' := ((mk mT nT k i ts).set i ⟨k + cnt nT (ts.take i), t.xs⟩).map Tm.cells) hσ rfl rfl rfl rfl rfl rfl rfl rfl rfl rfl rfl rfl rfl rfl (by simp [hg]) (by rw [List.map_set]; simp)) rfl ?_
  refine AOps.nil ?_
  refine AWP.seq ?_
  refine AWP.region ?_
  refine AOps.step (Val.of hσ rfl rfl) rfl rfl rfl ?_
  first | refine AOps.step (Val.fits64 hσ rfl rfl (by first | omega | (simp at *; omega)) (by first | omega | (simp at *; omega))) rfl rfl rfl ?_ | refine AOps.step (Val.vif hσ rfl rfl (by first | omega | (simp at *; omega))) rfl rfl rfl ?_
  refine AOps.step (Val.of hσ rfl rfl) rfl rfl rfl ?_
  refine AOps.nil ?_
  refine AWP.region ?_
  refine AOps.step (Val.of hσ rfl rfl) rfl rfl rfl ?_
  refine AOps.step (Val.of hσ rfl rfl) rfl rfl rfl ?_
  first | refine AOps.step (Val.indexD hσ rfl rfl rfl rfl rfl rfl rfl rfl (by first | omega | (simp at *; omega)) (idx_get (by first | omega | (simp at *; omega)) (by first | omega | (simp at *; omega)))) rfl rfl rfl ?_ | refine AOps.step (Val.vif hσ rfl rfl (by first | omega | (simp at *; omega))) rfl rfl rfl ?_
  refine AOps.step (Val.of hσ rfl rfl) rfl rfl rfl ?_
  refine AOps.step (Val.loadRow hσ (ex := Tm.cells ⟨k + cnt nT (ts.take i), t.xs⟩) rfl rfl rfl rfl (by simp [hgl]) rfl) rfl rfl rfl ?_
  refine AOps.step (Val.of hσ rfl rfl) rfl rfl rfl ?_
  refine AOps.innRp hσ (l := 0) (j := 1) (z := 1) (ex := Tm.cells ⟨k + cnt nT (ts.take i), t.xs⟩) (ys := (t.xs).map (fun n => [D.int .i64 n])) (ys' := (markL mI oneI (k + cnt nT (ts.take i) + 1) t.xs).map (fun n => [D.int .i64 n])) (xs' := (mk mT nT k (i + 1) ts).map Tm.cells) rfl rfl rfl rfl (.rp (.d rfl .nil)) (.rp (.d rfl .nil)) rfl (by simp [hgl]) rfl (c19 (xs := t.xs) (k := (k + cnt nT (ts.take i) + 1)) h1 h2 (by omega) (by omega)).1 (fun _ => by rw [List.length_map]; exact c19 (xs := t.xs) h1 h2 (by omega) (by omega)) (fun hys => ?_) rfl (by simp [markL_length]) rfl rfl rfl rfl (by rw [← hs]; simp [List.map_set]) ?_
  ·
   have hy : t.xs = [] := by simpa using hys
   rw [hy]
   exact (c19n h1 h2 (k := (k + cnt nT (ts.take i) + 1))).plain (by simp [cnt, hy])
  refine AOps.step (Val.of hσ rfl rfl) rfl rfl rfl ?_
  refine AOps.nil ?_
  refine AWP.region ?_
  refine AOps.step (Val.of hσ rfl rfl) rfl rfl rfl ?_
  first | refine AOps.step (Val.fits64 hσ rfl rfl (by first | omega | (simp at *; omega)) (by first | omega | (simp at *; omega))) rfl rfl rfl ?_ | refine AOps.step (Val.vif hσ rfl rfl (by first | omega | (simp at *; omega))) rfl rfl rfl ?_
  refine AOps.step (Val.of hσ rfl rfl) rfl rfl rfl ?_
  refine AOps.nil ?_
  refine ⟨i + 1, Ent.to ⟨rfl, ?_, rfl, trivial⟩ rfl, by omega, by omega⟩
  rw [hcs]
  exact congrArg (fun z => some (eI z)) (by omega)
 ·
  try simp only [List.length_map, beq_iff_eq, decide_eq_true_eq, decide_eq_false_iff_not, Bool.not_eq_true', Bool.not_eq_false', Bool.not_true, Bool.not_false, Int.not_lt, Int.not_le] at hc9
  refine AWP.exit ?_
  refine AWP.seq ?_
  refine AWP.region ?_
  refine AOps.step (Val.of hσ rfl rfl) rfl rfl rfl ?_
  refine AOps.step (Val.of hσ rfl rfl) rfl rfl rfl ?_
  refine AOps.nil ?_
  refine AWP.ret ?_
  refine ⟨.inl rfl, _, Ent.refl, _, rfl, ?_⟩
  obtain rfl : i = ts.length := by omega
  rw [mk_all (Nat.le_refl _), List.take_length]
  exact ⟨rfl, rfl⟩
def heldSx (s : Sx) (k : Int) : Int := if s.vars = markL mI oneI k s.vars then (if s.cells = markL mI oneI (k + s.vars.length) s.cells then k + s.vars.length + s.cells.length else -1) else -1
end Go.Al
