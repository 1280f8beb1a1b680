/- Contracts of the functions that copy, compare, mark and measure. -/
import Derived.Test.YtikejfdfkemmmaaProg
import Derived.Test.YtikejfdfkemmmaaC
set_option linter.unusedVariables false
set_option linter.unusedSimpArgs false
set_option maxRecDepth 10000
open Go.Proofs
/- The table of the types that the functions of this seat use, and its proof. -/
namespace Go.Al
variable {L : Nat} (h1 : 4096 ≤ L) (h2 : L ≤ 1073741824)
def tt : List (Nat × TI) := [
  (2, ⟨4, false, 0, 1, 8, [.int .i64 0], []⟩),
  (3, ⟨4, false, 0, 1, 8, [.int .i64 0], []⟩),
  (4, ⟨5, false, 0, 1, 1, [.bool false], []⟩),
  (5, ⟨4, false, 0, 1, 1, [.int .u8 0], []⟩),
  (9, ⟨2, false, 0, 1, 16, [.str ByteArray.empty], []⟩),
  (22, ⟨1, false, 5, 1, 24, [.nils], []⟩),
  (24, ⟨1, false, 44, 1, 24, [.nils], []⟩),
  (26, ⟨1, false, 2, 1, 24, [.nils], []⟩),
  (28, ⟨3, true, 0, 2, 48, [.nils, .nils], [(0, 1), (1, 1)]⟩),
  (44, ⟨3, true, 0, 2, 16, [.int .i64 0, .int .i64 0], [(0, 1), (1, 1)]⟩),
  (49, ⟨1, false, 4, 1, 24, [.nils], []⟩),
  (56, ⟨3, true, 0, 4, 80, [.nils, .nils, .nils, .int .i64 0], [(0, 2), (2, 1), (3, 1)]⟩),
  (58, ⟨3, true, 0, 7, 136, [.nils, .nils, .nils, .int .i64 0, .nils, .nils, .int .i64 0], [(0, 4), (4, 1), (5, 1), (6, 1)]⟩),
  (59, ⟨4, false, 0, 1, 8, [.int .u64 0], []⟩),
  (61, ⟨3, true, 0, 3, 40, [.nils, .int .i64 0, .int .u64 0], [(0, 1), (1, 1), (2, 1)]⟩),
  (81, ⟨4, false, 0, 1, 8, [.int .u64 0], []⟩),
  (87, ⟨4, false, 0, 1, 8, [.int .i64 0], []⟩),
  (96, ⟨4, false, 0, 1, 4, [.int .u32 0], []⟩),
  (98, ⟨4, false, 0, 1, 8, [.int .u64 0], []⟩)
]
theorem tt2 : TIok Try.prog 2 ⟨4, false, 0, 1, 8, [.int .i64 0], []⟩ := ⟨by kernel_rfl, by kernel_rfl, by kernel_rfl, by kernel_rfl, by kernel_rfl, by kernel_rfl, by kernel_rfl⟩
theorem tt3 : TIok Try.prog 3 ⟨4, false, 0, 1, 8, [.int .i64 0], []⟩ := ⟨by kernel_rfl, by kernel_rfl, by kernel_rfl, by kernel_rfl, by kernel_rfl, by kernel_rfl, by kernel_rfl⟩
theorem tt4 : TIok Try.prog 4 ⟨5, false, 0, 1, 1, [.bool false], []⟩ := ⟨by kernel_rfl, by kernel_rfl, by kernel_rfl, by kernel_rfl, by kernel_rfl, by kernel_rfl, by kernel_rfl⟩
theorem tt5 : TIok Try.prog 5 ⟨4, false, 0, 1, 1, [.int .u8 0], []⟩ := ⟨by kernel_rfl, by kernel_rfl, by kernel_rfl, by kernel_rfl, by kernel_rfl, by kernel_rfl, by kernel_rfl⟩
theorem tt9 : TIok Try.prog 9 ⟨2, false, 0, 1, 16, [.str ByteArray.empty], []⟩ := ⟨by kernel_rfl, by kernel_rfl, by kernel_rfl, by kernel_rfl, by kernel_rfl, by kernel_rfl, by kernel_rfl⟩
theorem qD : TIok Try.prog 22 ⟨1, false, 5, 1, 24, [.nils], []⟩ := ⟨by kernel_rfl, by kernel_rfl, by kernel_rfl, by kernel_rfl, by kernel_rfl, by kernel_rfl, by kernel_rfl⟩
theorem qC : TIok Try.prog 24 ⟨1, false, 44, 1, 24, [.nils], []⟩ := ⟨by kernel_rfl, by kernel_rfl, by kernel_rfl, by kernel_rfl, by kernel_rfl, by kernel_rfl, by kernel_rfl⟩
theorem qB : TIok Try.prog 26 ⟨1, false, 2, 1, 24, [.nils], []⟩ := ⟨by kernel_rfl, by kernel_rfl, by kernel_rfl, by kernel_rfl, by kernel_rfl, by kernel_rfl, by kernel_rfl⟩
theorem qA : TIok Try.prog 28 ⟨3, true, 0, 2, 48, [.nils, .nils], [(0, 1), (1, 1)]⟩ := ⟨by kernel_rfl, by kernel_rfl, by kernel_rfl, by kernel_rfl, by kernel_rfl, by kernel_rfl, by kernel_rfl⟩
theorem qz : TIok Try.prog 44 ⟨3, true, 0, 2, 16, [.int .i64 0, .int .i64 0], [(0, 1), (1, 1)]⟩ := ⟨by kernel_rfl, by kernel_rfl, by kernel_rfl, by kernel_rfl, by kernel_rfl, by kernel_rfl, by kernel_rfl⟩
theorem qy : TIok Try.prog 49 ⟨1, false, 4, 1, 24, [.nils], []⟩ := ⟨by kernel_rfl, by kernel_rfl, by kernel_rfl, by kernel_rfl, by kernel_rfl, by kernel_rfl, by kernel_rfl⟩
theorem qx : TIok Try.prog 56 ⟨3, true, 0, 4, 80, [.nils, .nils, .nils, .int .i64 0], [(0, 2), (2, 1), (3, 1)]⟩ := ⟨by kernel_rfl, by kernel_rfl, by kernel_rfl, by kernel_rfl, by kernel_rfl, by kernel_rfl, by kernel_rfl⟩
theorem qw : TIok Try.prog 58 ⟨3, true, 0, 7, 136, [.nils, .nils, .nils, .int .i64 0, .nils, .nils, .int .i64 0], [(0, 4), (4, 1), (5, 1), (6, 1)]⟩ := ⟨by kernel_rfl, by kernel_rfl, by kernel_rfl, by kernel_rfl, by kernel_rfl, by kernel_rfl, by kernel_rfl⟩
theorem qv : TIok Try.prog 59 ⟨4, false, 0, 1, 8, [.int .u64 0], []⟩ := ⟨by kernel_rfl, by kernel_rfl, by kernel_rfl, by kernel_rfl, by kernel_rfl, by kernel_rfl, by kernel_rfl⟩
theorem qu : TIok Try.prog 61 ⟨3, true, 0, 3, 40, [.nils, .int .i64 0, .int .u64 0], [(0, 1), (1, 1), (2, 1)]⟩ := ⟨by kernel_rfl, by kernel_rfl, by kernel_rfl, by kernel_rfl, by kernel_rfl, by kernel_rfl, by kernel_rfl⟩
theorem qt : TIok Try.prog 81 ⟨4, false, 0, 1, 8, [.int .u64 0], []⟩ := ⟨by kernel_rfl, by kernel_rfl, by kernel_rfl, by kernel_rfl, by kernel_rfl, by kernel_rfl, by kernel_rfl⟩
theorem qs : TIok Try.prog 87 ⟨4, false, 0, 1, 8, [.int .i64 0], []⟩ := ⟨by kernel_rfl, by kernel_rfl, by kernel_rfl, by kernel_rfl, by kernel_rfl, by kernel_rfl, by kernel_rfl⟩
theorem qr : TIok Try.prog 96 ⟨4, false, 0, 1, 4, [.int .u32 0], []⟩ := ⟨by kernel_rfl, by kernel_rfl, by kernel_rfl, by kernel_rfl, by kernel_rfl, by kernel_rfl, by kernel_rfl⟩
theorem qq : TIok Try.prog 98 ⟨4, false, 0, 1, 8, [.int .u64 0], []⟩ := ⟨by kernel_rfl, by kernel_rfl, by kernel_rfl, by kernel_rfl, by kernel_rfl, by kernel_rfl, by kernel_rfl⟩
theorem pj : TTok Try.prog tt := ⟨tt2, tt3, tt4, tt5, tt9, qD, qC, qB, qA, qz, qy, qx, qw, qv, qu, qt, qs, qr, qq, trivial⟩
theorem mo : TTplain tt = true := by kernel_rfl
theorem nS : Try.prog.follows .mixedOrders = true := by kernel_rfl
theorem ac {σ : Sg} {Q : Exit → St → Prop} {s : St} {id : Nat} {l : List Oper} {y : Code} (h : AOps σ l.toArray (fG (AWP σ y Q) Q) l s) : AWP σ (.seq (.region id l.toArray false) y) Q s := AWP.seq (AWP.region h)
theorem jn {σ : Sg} {Q : Exit → St → Prop} {s : St} {all : Array Oper} (h : Q .normal s) : AOps σ all Q [] s := AOps.nil h
theorem aW {σ : Sg} {Q : Exit → St → Prop} {s : St} {all : Array Oper} {id : Nat} {l : List Oper} {y : Code} (h : AOps σ l.toArray (fG (AWP σ y Q) Q) l s) : AOps σ all (fG (AWP σ (.seq (.region id l.toArray false) y) Q) Q) [] s := AOps.nil (AWP.seq (AWP.region h))
theorem bv : (∀ {α β : Type} {f : α → β} {l : List α}, (l.map f).length = l.length) ∧ (∀ {α : Type} [BEq α] [LawfulBEq α] {a b : α}, (a == b) = true ↔ a = b) ∧ (∀ {p : Prop} [Decidable p], (decide p = true) = p) ∧ (∀ {p : Prop} [Decidable p], (decide p = false) ↔ ¬ p) ∧ (∀ {b : Bool}, ((!b) = true) = (b = false)) ∧ (∀ {b : Bool}, ((!b) = false) = (b = true)) ∧ ((!true) = false) ∧ ((!false) = true) ∧ (∀ {a b : Int}, ¬ a < b ↔ b ≤ a) ∧ (∀ {a b : Int}, ¬ a ≤ b ↔ b < a) := by
 refine ⟨?_, ?_, ?_, ?_, ?_, ?_, ?_, ?_, ?_, ?_⟩ <;> intros <;> simp
theorem au {σ : Sg} {Q : bk} {all : Array Oper} {l : List Oper} {e : List (Nat × A)} {H H' : List (Nat × B)} (K : AOps σ all Q l ⟨e, H'⟩) (h : HN H H' := by repeat' (first | apply HN.cons rfl | exact HN.nil rfl | exact BN.row rfl | exact BN.map rfl | apply BN.box rfl | apply MN.cons rfl | exact MN.nil rfl | exact XN.d rfl | exact XN.rs rfl | exact kO)) : AOps σ all Q l ⟨e, H⟩ := lm h K
theorem dw {σ : Sg} {Q : Exit → St → Prop} {c : Code} {e : List (Nat × A)} {H H' : List (Nat × B)} (K : AWP σ c Q ⟨e, H'⟩) (h : HN H H' := by repeat' (first | apply HN.cons rfl | exact HN.nil rfl | exact BN.row rfl | exact BN.map rfl | apply BN.box rfl | apply MN.cons rfl | exact MN.nil rfl | exact XN.d rfl | exact XN.rs rfl | exact kO)) : AWP σ c Q ⟨e, H⟩ := mP h K
def oG (e : List (Nat × A)) : List Nat → Option (List (Nat × A))
  | [] => some []
  | k :: ks => match lk e k, oG e ks with
    | some v, some r => some ((k, v) :: r)
    | _, _ => none
theorem iA {e : List (Nat × A)} : ∀ {ks : List Nat} {e' : List (Nat × A)}, oG e ks = some e' → envSub e e'
 | [], e', h => by cases h; trivial
 | k :: ks, e', h => by
  unfold oG at h
  split at h
  rename_i v r h1 h2
  cases h
  exact ⟨h1, iA h2⟩
  cases h
theorem jf {σ : Sg} {Q : Exit → St → Prop} {all : Array Oper} {l : List Oper} {e e' : List (Nat × A)} {H : List (Nat × B)} (ks : List Nat) (h : oG e ks = some e') (K : AOps σ all Q l ⟨e', H⟩) : AOps σ all Q l ⟨e, H⟩ := jC e' (iA h) K
theorem jw {σ : Sg} {Q : Exit → St → Prop} {c : Code} {e e' : List (Nat × A)} {H : List (Nat × B)} (ks : List Nat) (h : oG e ks = some e') (K : AWP σ c Q ⟨e', H⟩) : AWP σ c Q ⟨e, H⟩ := km e' (iA h) K


noncomputable abbrev SG (L nt : Nat) : Sg := ⟨Try.prog, tt, L, nt, []⟩
theorem m3 {L nt} (h1 : 4096 ≤ L) (h2 : L ≤ 9223372036854775807) : SgOk (SG L nt) := ⟨pj, mo, h1, h2, nS⟩
theorem jB {L f : Nat} {fn : Func} {c : Code} {args : List A} {Q : A → List (Nat × B) → Prop} (nt : Nat) (h1 : 4096 ≤ L) (h2 : L ≤ 1073741824) (hf : Try.prog.funcs[f]? = some fn) (hb : fn.body = some c) (hnt : fn.ntmps = nt) (ha : Nat.ble args.length nt = true) (h : SgOk (SG L nt) → As.fact L args → AWP (SG L nt) c (fun e s => (e = .ret ∨ e = .normal) ∧ ∃ s2, Ent (SG L nt) s s2 ∧ ∃ res, cQ tt s2 fn.results.toList = some res ∧ Q res s2.H) ⟨bM 0 args, []⟩) (hn : (fn.name == "runtime.NumGoroutine") = false := by kernel_rfl) : MC Try.prog L f args [] Q := have hσ := m3 (nt := nt) h1 (Nat.le_trans h2 (by decide)); MC.body hσ hf hn hb hnt (Nat.le_of_ble_eq_true ha) (h hσ)
theorem jH {L f : Nat} {fn : Func} {c : Code} {args : List A} {Hin : List (Nat × B)} {Q : A → List (Nat × B) → Prop} (nt : Nat) (ks : List Nat) (h1 : 4096 ≤ L) (h2 : L ≤ 1073741824) (hf : Try.prog.funcs[f]? = some fn) (hb : fn.body = some c) (hnt : fn.ntmps = nt) (hi : ks = Hin.map (·.1)) (ha : Nat.ble args.length nt = true) (h : SgOk ⟨Try.prog, tt, L, nt, ks⟩ → As.fact L args → AWP ⟨Try.prog, tt, L, nt, ks⟩ c (fun e s => (e = .ret ∨ e = .normal) ∧ ∃ s2, Ent ⟨Try.prog, tt, L, nt, ks⟩ s s2 ∧ ∃ res, cQ tt s2 fn.results.toList = some res ∧ Q res s2.H) ⟨bM 0 args, Hin⟩) (hn : (fn.name == "runtime.NumGoroutine") = false := by kernel_rfl) : MC Try.prog L f args Hin Q := have hσ := iJ (js := ks) (m3 (nt := nt) h1 (Nat.le_trans h2 (by decide))); mM hσ hf hn hb hnt hi (Nat.le_of_ble_eq_true ha) (h hσ)
abbrev MQ {L : Nat} (h1 : 4096 ≤ L) (h2 : L ≤ 1073741824) (f : Nat) (ds : List A) (Hin : List (Nat × B)) (Q : A → List (Nat × B) → Prop) : Prop := MC Try.prog L f ds Hin Q
abbrev eI (n : Int) : A := .c (.d (.int .i64 n))
abbrev eB (b : Bool) : A := .c (.d (.bool b))
abbrev dH (xs : List Int) : D := .slc 1 (xs.map fun n => [.int .i64 n])
structure Tm where
  c : Int
  xs : List Int
  deriving Inhabited
abbrev Tm.cells (t : Tm) : List D := [.int .i64 t.c, dH t.xs]
abbrev ptr (cs : List D) : A := .c (.d (.ptr cs 0))
def gc (x : Int) : Bool := decide (-1000000 ≤ x) && decide (x ≤ 1000000)
def Tm.ok (t : Tm) : Bool := !(bif (bif !gc t.c then true else decide ((10 : Int) < t.xs.length)) then true else bif decide ((0 : Int) < t.xs.length) then decide (t.xs.getD ((t.xs.length : Int) - 1).toNat default = 0) else false) && t.xs.all gc
theorem oD {α : Type} {p : α → Bool} {xs : List α} (h : ∀ j (hj : j < xs.length), p xs[j] = true) : xs.all p = true := by
 rw [List.all_eq_true]; intro x hx
 obtain ⟨j, hj, rfl⟩ := List.mem_iff_getElem.1 hx
 exact h j hj
theorem nh {α : Type} {p : α → Bool} {xs : List α} (j : Nat) (hj : j < xs.length) (h : p xs[j] = false) : xs.all p = false := by
 rw [List.all_eq_false]; exact ⟨xs[j], List.getElem_mem _, by simp [h]⟩
theorem aM {α : Type} [Inhabited α] {xs : List α} {j : Nat} (hj : j < xs.length) : xs.getD j default = xs[j] := by simp [hj]

abbrev ah (xs : List Int) : B := .row true 1 (xs.map fun n => [.int .i64 n])
abbrev aT (xs : List Int) : A := .c (.d (dH xs))
theorem oY {xs : List Int} : MQ h1 h2 50 [aT xs] [] (Rows (.c (.rs 0 0 xs.length)) [ah xs]) := by
 refine b9 (jB 6 h1 h2 Try.func50 Z Z Z fun O hF => ?_)
 have hl : xs.length ≤ L := by simpa [As.fact, A.fact, M.fact, D.fact, Ds.fact] using hF.1.1
 refine ?_
 refine ac (js O Z (aW (AOps.heap (bg O Z Z Z) Z (js O Z (AOps.heap (gL (own := true) O Z Z Z Z Z Z Z Z Z Z Z Z Z Z Z Z (.row Z Z) (.slc (.inr (Scal.map (fun _ => rfl)))) (by simp) Z (by first | omega | (dsimp only [dE, lp, List.length_nil]; omega) | (simp only [bv] at *; omega) | (simp; omega)) (by first | omega | (dsimp only [dE, lp, List.length_nil]; omega) | (simp only [bv] at *; omega) | (simp; omega)) Z Z) Z (js O Z (jr ?_)))))))
 refine ⟨.inl Z, _, ap, _, Z, [5], by decide, Z, ?_, ?_⟩
 simp [A.lab, M.lab]
 rfl

deriving instance DecidableEq for Tm
abbrev tms (ts : List Tm) : D := .slc 2 (ts.map Tm.cells)

structure Sm where
  kind : Int
  var : Int
  event : Int
  sum : Tm
  index : Tm
  facts : List Tm
  deriving Inhabited, DecidableEq
structure Pm where
  pre : List Tm
  body : List Sm
  post : List Tm
  deriving Inhabited, DecidableEq
structure Sx where
  vars : List Int
  cells : List Int
  deriving Inhabited, DecidableEq
abbrev Sx.data (s : Sx) : List D := [dH s.vars, dH s.cells]
abbrev jE (s : Sx) : A := .agg (s.data.map .d)

def cnt {α : Type} (sz : α → Nat) (l : List α) : Nat := (l.map sz).sum
section
variable {α : Type} {f : Int → α → α} {sz : α → Nat}
end

end Go.Al
