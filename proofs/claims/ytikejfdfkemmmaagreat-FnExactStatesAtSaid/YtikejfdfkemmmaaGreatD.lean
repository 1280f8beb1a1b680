/- Contracts of the functions that copy, compare, mark and measure. -/
import Derived.Test.YtikejfdfkemmmaaGreatProg
import Derived.Test.YtikejfdfkemmmaaGreatC
set_option linter.unusedVariables false
set_option linter.unusedSimpArgs false
set_option maxRecDepth 10000
open Go.Proofs
/- The table of the types that the functions of this seat use, and its proof. -/
namespace Go.Al
variable {L : Nat} (h1 : 4096 ≤ L) (h2 : L ≤ 1073741824)
def tt : List (Nat × TI) := [
  (2, ⟨4, false, 0, 1, 8, [.int .i64 0], []⟩),
  (3, ⟨4, false, 0, 1, 8, [.int .i64 0], []⟩),
  (4, ⟨5, false, 0, 1, 1, [.bool false], []⟩),
  (9, ⟨2, false, 0, 1, 16, [.str ByteArray.empty], []⟩),
  (22, ⟨1, false, 122, 1, 24, [.nils], []⟩),
  (23, ⟨1, false, 145, 1, 24, [.nils], []⟩),
  (24, ⟨1, false, 125, 1, 24, [.nils], []⟩),
  (26, ⟨3, true, 0, 4, 96, [.nils, .nils, .nils, .nils], [(0, 1), (1, 1), (2, 1), (3, 1)]⟩),
  (28, ⟨1, false, 94, 1, 24, [.nils], []⟩),
  (31, ⟨1, false, 92, 1, 24, [.nils], []⟩),
  (32, ⟨1, false, 143, 1, 24, [.nils], []⟩),
  (33, ⟨1, false, 130, 1, 24, [.nils], []⟩),
  (35, ⟨3, true, 0, 4, 96, [.nils, .nils, .nils, .nils], [(0, 1), (1, 1), (2, 1), (3, 1)]⟩),
  (42, ⟨1, false, 106, 1, 24, [.nils], []⟩),
  (49, ⟨1, false, 90, 1, 24, [.nils], []⟩),
  (51, ⟨3, true, 0, 1, 24, [.nils], [(0, 1)]⟩),
  (55, ⟨3, true, 0, 1, 24, [.nils], [(0, 1)]⟩),
  (70, ⟨6, false, 0, 1, 8, [.nilp], []⟩),
  (75, ⟨3, true, 0, 5, 72, [.nilp, .int .i64 0, .nils, .nils, .bool false], [(0, 1), (1, 1), (2, 1), (3, 1), (4, 1)]⟩),
  (80, ⟨6, false, 0, 1, 8, [.nilp], []⟩),
  (84, ⟨1, false, 31, 1, 24, [.nils], []⟩),
  (86, ⟨3, true, 0, 5, 104, [.nils, .nils, .nils, .nils, .bool false], [(0, 1), (1, 1), (2, 1), (3, 1), (4, 1)]⟩),
  (88, ⟨3, true, 0, 9, 200, [.nils, .nils, .nils, .nils, .bool false, .nils, .nils, .nils, .nils], [(0, 5), (5, 4)]⟩),
  (90, ⟨1, false, 2, 1, 24, [.nils], []⟩),
  (92, ⟨3, true, 0, 2, 32, [.int .i64 0, .nils], [(0, 1), (1, 1)]⟩),
  (94, ⟨3, true, 0, 3, 56, [.nils, .int .i64 0, .nils], [(0, 1), (1, 2)]⟩),
  (106, ⟨3, true, 0, 5, 88, [.int .i64 0, .int .i64 0, .nils, .nils, .nils], [(0, 1), (1, 1), (2, 1), (3, 1), (4, 1)]⟩),
  (115, ⟨1, false, 118, 1, 24, [.nils], []⟩),
  (118, ⟨1, false, 4, 1, 24, [.nils], []⟩),
  (122, ⟨3, true, 0, 2, 32, [.int .i64 0, .nils], [(0, 1), (1, 1)]⟩),
  (125, ⟨3, true, 0, 2, 32, [.int .i64 0, .nils], [(0, 1), (1, 1)]⟩),
  (130, ⟨3, true, 0, 2, 32, [.int .i64 0, .nils], [(0, 1), (1, 1)]⟩),
  (137, ⟨3, true, 0, 5, 104, [.nils, .nils, .int .i64 0, .nils, .nils], [(0, 1), (1, 1), (2, 1), (3, 1), (4, 1)]⟩),
  (143, ⟨3, true, 0, 2, 16, [.int .i64 0, .int .i64 0], [(0, 1), (1, 1)]⟩),
  (145, ⟨3, true, 0, 2, 16, [.int .i64 0, .int .i64 0], [(0, 1), (1, 1)]⟩),
  (191, ⟨3, true, 0, 6, 112, [.int .i64 0, .nils, .nils, .nils, .nils, .int .i64 0], [(0, 1), (1, 1), (2, 1), (3, 1), (4, 1), (5, 1)]⟩),
  (229, ⟨4, false, 0, 1, 8, [.int .u64 0], []⟩),
  (232, ⟨4, false, 0, 1, 8, [.int .i64 0], []⟩),
  (241, ⟨4, false, 0, 1, 4, [.int .u32 0], []⟩),
  (243, ⟨4, false, 0, 1, 8, [.int .u64 0], []⟩),
  (244, ⟨4, false, 0, 1, 8, [.int .u64 0], []⟩)
]
theorem tt2 : TIok Tryz.prog 2 ⟨4, false, 0, 1, 8, [.int .i64 0], []⟩ := ⟨by kernel_rfl, by kernel_rfl, by kernel_rfl, by kernel_rfl, by kernel_rfl, by kernel_rfl, by kernel_rfl⟩
theorem tt3 : TIok Tryz.prog 3 ⟨4, false, 0, 1, 8, [.int .i64 0], []⟩ := ⟨by kernel_rfl, by kernel_rfl, by kernel_rfl, by kernel_rfl, by kernel_rfl, by kernel_rfl, by kernel_rfl⟩
theorem tt4 : TIok Tryz.prog 4 ⟨5, false, 0, 1, 1, [.bool false], []⟩ := ⟨by kernel_rfl, by kernel_rfl, by kernel_rfl, by kernel_rfl, by kernel_rfl, by kernel_rfl, by kernel_rfl⟩
theorem tt9 : TIok Tryz.prog 9 ⟨2, false, 0, 1, 16, [.str ByteArray.empty], []⟩ := ⟨by kernel_rfl, by kernel_rfl, by kernel_rfl, by kernel_rfl, by kernel_rfl, by kernel_rfl, by kernel_rfl⟩
theorem AL : TIok Tryz.prog 22 ⟨1, false, 122, 1, 24, [.nils], []⟩ := ⟨by kernel_rfl, by kernel_rfl, by kernel_rfl, by kernel_rfl, by kernel_rfl, by kernel_rfl, by kernel_rfl⟩
theorem AK : TIok Tryz.prog 23 ⟨1, false, 145, 1, 24, [.nils], []⟩ := ⟨by kernel_rfl, by kernel_rfl, by kernel_rfl, by kernel_rfl, by kernel_rfl, by kernel_rfl, by kernel_rfl⟩
theorem AJ : TIok Tryz.prog 24 ⟨1, false, 125, 1, 24, [.nils], []⟩ := ⟨by kernel_rfl, by kernel_rfl, by kernel_rfl, by kernel_rfl, by kernel_rfl, by kernel_rfl, by kernel_rfl⟩
theorem AI : TIok Tryz.prog 26 ⟨3, true, 0, 4, 96, [.nils, .nils, .nils, .nils], [(0, 1), (1, 1), (2, 1), (3, 1)]⟩ := ⟨by kernel_rfl, by kernel_rfl, by kernel_rfl, by kernel_rfl, by kernel_rfl, by kernel_rfl, by kernel_rfl⟩
theorem AH : TIok Tryz.prog 28 ⟨1, false, 94, 1, 24, [.nils], []⟩ := ⟨by kernel_rfl, by kernel_rfl, by kernel_rfl, by kernel_rfl, by kernel_rfl, by kernel_rfl, by kernel_rfl⟩
theorem AF : TIok Tryz.prog 31 ⟨1, false, 92, 1, 24, [.nils], []⟩ := ⟨by kernel_rfl, by kernel_rfl, by kernel_rfl, by kernel_rfl, by kernel_rfl, by kernel_rfl, by kernel_rfl⟩
theorem AE : TIok Tryz.prog 32 ⟨1, false, 143, 1, 24, [.nils], []⟩ := ⟨by kernel_rfl, by kernel_rfl, by kernel_rfl, by kernel_rfl, by kernel_rfl, by kernel_rfl, by kernel_rfl⟩
theorem AD : TIok Tryz.prog 33 ⟨1, false, 130, 1, 24, [.nils], []⟩ := ⟨by kernel_rfl, by kernel_rfl, by kernel_rfl, by kernel_rfl, by kernel_rfl, by kernel_rfl, by kernel_rfl⟩
theorem AC : TIok Tryz.prog 35 ⟨3, true, 0, 4, 96, [.nils, .nils, .nils, .nils], [(0, 1), (1, 1), (2, 1), (3, 1)]⟩ := ⟨by kernel_rfl, by kernel_rfl, by kernel_rfl, by kernel_rfl, by kernel_rfl, by kernel_rfl, by kernel_rfl⟩
theorem AB : TIok Tryz.prog 42 ⟨1, false, 106, 1, 24, [.nils], []⟩ := ⟨by kernel_rfl, by kernel_rfl, by kernel_rfl, by kernel_rfl, by kernel_rfl, by kernel_rfl, by kernel_rfl⟩
theorem AA : TIok Tryz.prog 49 ⟨1, false, 90, 1, 24, [.nils], []⟩ := ⟨by kernel_rfl, by kernel_rfl, by kernel_rfl, by kernel_rfl, by kernel_rfl, by kernel_rfl, by kernel_rfl⟩
theorem Az : TIok Tryz.prog 51 ⟨3, true, 0, 1, 24, [.nils], [(0, 1)]⟩ := ⟨by kernel_rfl, by kernel_rfl, by kernel_rfl, by kernel_rfl, by kernel_rfl, by kernel_rfl, by kernel_rfl⟩
theorem Ay : TIok Tryz.prog 55 ⟨3, true, 0, 1, 24, [.nils], [(0, 1)]⟩ := ⟨by kernel_rfl, by kernel_rfl, by kernel_rfl, by kernel_rfl, by kernel_rfl, by kernel_rfl, by kernel_rfl⟩
theorem Ax : TIok Tryz.prog 70 ⟨6, false, 0, 1, 8, [.nilp], []⟩ := ⟨by kernel_rfl, by kernel_rfl, by kernel_rfl, by kernel_rfl, by kernel_rfl, by kernel_rfl, by kernel_rfl⟩
theorem Aw : TIok Tryz.prog 75 ⟨3, true, 0, 5, 72, [.nilp, .int .i64 0, .nils, .nils, .bool false], [(0, 1), (1, 1), (2, 1), (3, 1), (4, 1)]⟩ := ⟨by kernel_rfl, by kernel_rfl, by kernel_rfl, by kernel_rfl, by kernel_rfl, by kernel_rfl, by kernel_rfl⟩
theorem Av : TIok Tryz.prog 80 ⟨6, false, 0, 1, 8, [.nilp], []⟩ := ⟨by kernel_rfl, by kernel_rfl, by kernel_rfl, by kernel_rfl, by kernel_rfl, by kernel_rfl, by kernel_rfl⟩
theorem Au : TIok Tryz.prog 84 ⟨1, false, 31, 1, 24, [.nils], []⟩ := ⟨by kernel_rfl, by kernel_rfl, by kernel_rfl, by kernel_rfl, by kernel_rfl, by kernel_rfl, by kernel_rfl⟩
theorem At : TIok Tryz.prog 86 ⟨3, true, 0, 5, 104, [.nils, .nils, .nils, .nils, .bool false], [(0, 1), (1, 1), (2, 1), (3, 1), (4, 1)]⟩ := ⟨by kernel_rfl, by kernel_rfl, by kernel_rfl, by kernel_rfl, by kernel_rfl, by kernel_rfl, by kernel_rfl⟩
theorem Ar : TIok Tryz.prog 88 ⟨3, true, 0, 9, 200, [.nils, .nils, .nils, .nils, .bool false, .nils, .nils, .nils, .nils], [(0, 5), (5, 4)]⟩ := ⟨by kernel_rfl, by kernel_rfl, by kernel_rfl, by kernel_rfl, by kernel_rfl, by kernel_rfl, by kernel_rfl⟩
theorem Aq : TIok Tryz.prog 90 ⟨1, false, 2, 1, 24, [.nils], []⟩ := ⟨by kernel_rfl, by kernel_rfl, by kernel_rfl, by kernel_rfl, by kernel_rfl, by kernel_rfl, by kernel_rfl⟩
theorem Ap : TIok Tryz.prog 92 ⟨3, true, 0, 2, 32, [.int .i64 0, .nils], [(0, 1), (1, 1)]⟩ := ⟨by kernel_rfl, by kernel_rfl, by kernel_rfl, by kernel_rfl, by kernel_rfl, by kernel_rfl, by kernel_rfl⟩
theorem Ao : TIok Tryz.prog 94 ⟨3, true, 0, 3, 56, [.nils, .int .i64 0, .nils], [(0, 1), (1, 2)]⟩ := ⟨by kernel_rfl, by kernel_rfl, by kernel_rfl, by kernel_rfl, by kernel_rfl, by kernel_rfl, by kernel_rfl⟩
theorem yM : TIok Tryz.prog 106 ⟨3, true, 0, 5, 88, [.int .i64 0, .int .i64 0, .nils, .nils, .nils], [(0, 1), (1, 1), (2, 1), (3, 1), (4, 1)]⟩ := ⟨by kernel_rfl, by kernel_rfl, by kernel_rfl, by kernel_rfl, by kernel_rfl, by kernel_rfl, by kernel_rfl⟩
theorem yL : TIok Tryz.prog 115 ⟨1, false, 118, 1, 24, [.nils], []⟩ := ⟨by kernel_rfl, by kernel_rfl, by kernel_rfl, by kernel_rfl, by kernel_rfl, by kernel_rfl, by kernel_rfl⟩
theorem yK : TIok Tryz.prog 118 ⟨1, false, 4, 1, 24, [.nils], []⟩ := ⟨by kernel_rfl, by kernel_rfl, by kernel_rfl, by kernel_rfl, by kernel_rfl, by kernel_rfl, by kernel_rfl⟩
theorem yJ : TIok Tryz.prog 122 ⟨3, true, 0, 2, 32, [.int .i64 0, .nils], [(0, 1), (1, 1)]⟩ := ⟨by kernel_rfl, by kernel_rfl, by kernel_rfl, by kernel_rfl, by kernel_rfl, by kernel_rfl, by kernel_rfl⟩
theorem yI : TIok Tryz.prog 125 ⟨3, true, 0, 2, 32, [.int .i64 0, .nils], [(0, 1), (1, 1)]⟩ := ⟨by kernel_rfl, by kernel_rfl, by kernel_rfl, by kernel_rfl, by kernel_rfl, by kernel_rfl, by kernel_rfl⟩
theorem yH : TIok Tryz.prog 130 ⟨3, true, 0, 2, 32, [.int .i64 0, .nils], [(0, 1), (1, 1)]⟩ := ⟨by kernel_rfl, by kernel_rfl, by kernel_rfl, by kernel_rfl, by kernel_rfl, by kernel_rfl, by kernel_rfl⟩
theorem yG : TIok Tryz.prog 137 ⟨3, true, 0, 5, 104, [.nils, .nils, .int .i64 0, .nils, .nils], [(0, 1), (1, 1), (2, 1), (3, 1), (4, 1)]⟩ := ⟨by kernel_rfl, by kernel_rfl, by kernel_rfl, by kernel_rfl, by kernel_rfl, by kernel_rfl, by kernel_rfl⟩
theorem yF : TIok Tryz.prog 143 ⟨3, true, 0, 2, 16, [.int .i64 0, .int .i64 0], [(0, 1), (1, 1)]⟩ := ⟨by kernel_rfl, by kernel_rfl, by kernel_rfl, by kernel_rfl, by kernel_rfl, by kernel_rfl, by kernel_rfl⟩
theorem yE : TIok Tryz.prog 145 ⟨3, true, 0, 2, 16, [.int .i64 0, .int .i64 0], [(0, 1), (1, 1)]⟩ := ⟨by kernel_rfl, by kernel_rfl, by kernel_rfl, by kernel_rfl, by kernel_rfl, by kernel_rfl, by kernel_rfl⟩
theorem yD : TIok Tryz.prog 191 ⟨3, true, 0, 6, 112, [.int .i64 0, .nils, .nils, .nils, .nils, .int .i64 0], [(0, 1), (1, 1), (2, 1), (3, 1), (4, 1), (5, 1)]⟩ := ⟨by kernel_rfl, by kernel_rfl, by kernel_rfl, by kernel_rfl, by kernel_rfl, by kernel_rfl, by kernel_rfl⟩
theorem yC : TIok Tryz.prog 229 ⟨4, false, 0, 1, 8, [.int .u64 0], []⟩ := ⟨by kernel_rfl, by kernel_rfl, by kernel_rfl, by kernel_rfl, by kernel_rfl, by kernel_rfl, by kernel_rfl⟩
theorem yB : TIok Tryz.prog 232 ⟨4, false, 0, 1, 8, [.int .i64 0], []⟩ := ⟨by kernel_rfl, by kernel_rfl, by kernel_rfl, by kernel_rfl, by kernel_rfl, by kernel_rfl, by kernel_rfl⟩
theorem yA : TIok Tryz.prog 241 ⟨4, false, 0, 1, 4, [.int .u32 0], []⟩ := ⟨by kernel_rfl, by kernel_rfl, by kernel_rfl, by kernel_rfl, by kernel_rfl, by kernel_rfl, by kernel_rfl⟩
theorem yz : TIok Tryz.prog 243 ⟨4, false, 0, 1, 8, [.int .u64 0], []⟩ := ⟨by kernel_rfl, by kernel_rfl, by kernel_rfl, by kernel_rfl, by kernel_rfl, by kernel_rfl, by kernel_rfl⟩
theorem yy : TIok Tryz.prog 244 ⟨4, false, 0, 1, 8, [.int .u64 0], []⟩ := ⟨by kernel_rfl, by kernel_rfl, by kernel_rfl, by kernel_rfl, by kernel_rfl, by kernel_rfl, by kernel_rfl⟩
theorem yx : TTok Tryz.prog tt := ⟨tt2, tt3, tt4, tt9, AL, AK, AJ, AI, AH, AF, AE, AD, AC, AB, AA, Az, Ay, Ax, Aw, Av, Au, At, Ar, Aq, Ap, Ao, yM, yL, yK, yJ, yI, yH, yG, yF, yE, yD, yC, yB, yA, yz, yy, trivial⟩
theorem tw : TTplain tt = true := by kernel_rfl
theorem wv : Tryz.prog.follows .mixedOrders = true := by kernel_rfl
theorem ac {σ : Sg} {Q : Exit → St → Prop} {s : St} {id : Nat} {l : List Oper} {y : Code} (h : AOps σ l.toArray (kj (AWP σ y Q) Q) l s) : AWP σ (.seq (.region id l.toArray false) y) Q s := AWP.seq (AWP.region h)
theorem jn {σ : Sg} {Q : Exit → St → Prop} {s : St} {all : Array Oper} (h : Q .normal s) : AOps σ all Q [] s := AOps.nil h
theorem aP {σ : Sg} {Q : Exit → St → Prop} {s : St} {all : Array Oper} {id : Nat} {l : List Oper} {y : Code} (h : AOps σ l.toArray (kj (AWP σ y Q) Q) l s) : AOps σ all (kj (AWP σ (.seq (.region id l.toArray false) y) Q) Q) [] s := AOps.nil (AWP.seq (AWP.region h))
theorem aN : (∀ {α β : Type} {f : α → β} {l : List α}, (l.map f).length = l.length) ∧ (∀ {α : Type} [BEq α] [LawfulBEq α] {a b : α}, (a == b) = true ↔ a = b) ∧ (∀ {p : Prop} [Decidable p], (decide p = true) = p) ∧ (∀ {p : Prop} [Decidable p], (decide p = false) ↔ ¬ p) ∧ (∀ {b : Bool}, ((!b) = true) = (b = false)) ∧ (∀ {b : Bool}, ((!b) = false) = (b = true)) ∧ ((!true) = false) ∧ ((!false) = true) ∧ (∀ {a b : Int}, ¬ a < b ↔ b ≤ a) ∧ (∀ {a b : Int}, ¬ a ≤ b ↔ b < a) := by
 refine ⟨?_, ?_, ?_, ?_, ?_, ?_, ?_, ?_, ?_, ?_⟩ <;> intros <;> simp
theorem ao {σ : Sg} {Q : ck} {all : Array Oper} {l : List Oper} {e : List (Nat × A)} {H H' : List (Nat × B)} (K : AOps σ all Q l ⟨e, H'⟩) (h : HN H H' := by repeat' (first | apply HN.cons rfl | exact HN.nil rfl | exact BN.row rfl | exact BN.map rfl | apply BN.box rfl | apply MN.cons rfl | exact MN.nil rfl | exact XN.d rfl | exact XN.rs rfl | exact kT)) : AOps σ all Q l ⟨e, H⟩ := r4 h K
theorem ch {σ : Sg} {Q : Exit → St → Prop} {c : Code} {e : List (Nat × A)} {H H' : List (Nat × B)} (K : AWP σ c Q ⟨e, H'⟩) (h : HN H H' := by repeat' (first | apply HN.cons rfl | exact HN.nil rfl | exact BN.row rfl | exact BN.map rfl | apply BN.box rfl | apply MN.cons rfl | exact MN.nil rfl | exact XN.d rfl | exact XN.rs rfl | exact kT)) : AWP σ c Q ⟨e, H⟩ := t5 h K
def xV (e : List (Nat × A)) : List Nat → Option (List (Nat × A))
  | [] => some []
  | k :: ks => match lk e k, xV e ks with
    | some v, some r => some ((k, v) :: r)
    | _, _ => none
theorem nm {e : List (Nat × A)} : ∀ {ks : List Nat} {e' : List (Nat × A)}, xV e ks = some e' → envSub e e'
 | [], e', h => by cases h; trivial
 | k :: ks, e', h => by
  unfold xV at h
  split at h
  rename_i v r h1 h2
  cases h
  exact ⟨h1, nm h2⟩
  cases h
theorem jf {σ : Sg} {Q : Exit → St → Prop} {all : Array Oper} {l : List Oper} {e e' : List (Nat × A)} {H : List (Nat × B)} (ks : List Nat) (h : xV e ks = some e') (K : AOps σ all Q l ⟨e', H⟩) : AOps σ all Q l ⟨e, H⟩ := oP e' (nm h) K
theorem jw {σ : Sg} {Q : Exit → St → Prop} {c : Code} {e e' : List (Nat × A)} {H : List (Nat × B)} (ks : List Nat) (h : xV e ks = some e') (K : AWP σ c Q ⟨e', H⟩) : AWP σ c Q ⟨e, H⟩ := qk e' (nm h) K


noncomputable abbrev SG (L nt : Nat) : Sg := ⟨Tryz.prog, tt, L, nt, []⟩
theorem gk {L nt} (h1 : 4096 ≤ L) (h2 : L ≤ 9223372036854775807) : SgOk (SG L nt) := ⟨yx, tw, h1, h2, wv⟩
theorem jB {L f : Nat} {fn : Func} {c : Code} {args : List A} {Q : A → List (Nat × B) → Prop} (nt : Nat) (h1 : 4096 ≤ L) (h2 : L ≤ 1073741824) (hf : Tryz.prog.funcs[f]? = some fn) (hb : fn.body = some c) (hnt : fn.ntmps = nt) (ha : Nat.ble args.length nt = true) (h : SgOk (SG L nt) → As.fact L args → AWP (SG L nt) c (fun e s => (e = .ret ∨ e = .normal) ∧ ∃ s2, Ent (SG L nt) s s2 ∧ ∃ res, eG tt s2 fn.results.toList = some res ∧ Q res s2.H) ⟨bT 0 args, []⟩) (hn : (fn.name == "runtime.NumGoroutine") = false := by kernel_rfl) : MC Tryz.prog L f args [] Q := have hσ := gk (nt := nt) h1 (Nat.le_trans h2 (by decide)); MC.body hσ hf hn hb hnt (Nat.le_of_ble_eq_true ha) (h hσ)
theorem jH {L f : Nat} {fn : Func} {c : Code} {args : List A} {Hin : List (Nat × B)} {Q : A → List (Nat × B) → Prop} (nt : Nat) (ks : List Nat) (h1 : 4096 ≤ L) (h2 : L ≤ 1073741824) (hf : Tryz.prog.funcs[f]? = some fn) (hb : fn.body = some c) (hnt : fn.ntmps = nt) (hi : ks = Hin.map (·.1)) (ha : Nat.ble args.length nt = true) (h : SgOk ⟨Tryz.prog, tt, L, nt, ks⟩ → As.fact L args → AWP ⟨Tryz.prog, tt, L, nt, ks⟩ c (fun e s => (e = .ret ∨ e = .normal) ∧ ∃ s2, Ent ⟨Tryz.prog, tt, L, nt, ks⟩ s s2 ∧ ∃ res, eG tt s2 fn.results.toList = some res ∧ Q res s2.H) ⟨bT 0 args, Hin⟩) (hn : (fn.name == "runtime.NumGoroutine") = false := by kernel_rfl) : MC Tryz.prog L f args Hin Q := have hσ := nF (js := ks) (gk (nt := nt) h1 (Nat.le_trans h2 (by decide))); t4 hσ hf hn hb hnt hi (Nat.le_of_ble_eq_true ha) (h hσ)
abbrev MQ {L : Nat} (h1 : 4096 ≤ L) (h2 : L ≤ 1073741824) (f : Nat) (ds : List A) (Hin : List (Nat × B)) (Q : A → List (Nat × B) → Prop) : Prop := MC Tryz.prog L f ds Hin Q
abbrev eI (n : Int) : A := .c (.d (.int .i64 n))
abbrev eB (b : Bool) : A := .c (.d (.bool b))
abbrev gj (xs : List Int) : D := .slc 1 (xs.map fun n => [.int .i64 n])
structure Tm where
  c : Int
  xs : List Int
  deriving Inhabited
abbrev Tm.cells (t : Tm) : List D := [.int .i64 t.c, gj t.xs]
abbrev ptr (cs : List D) : A := .c (.d (.ptr cs 0))
def num (x : Int) : Bool := decide (-1000000 ≤ x) && decide (x ≤ 1000000)
def Tm.ok (t : Tm) : Bool := !(bif (bif !num t.c then true else decide ((10 : Int) < t.xs.length)) then true else bif decide ((0 : Int) < t.xs.length) then decide (t.xs.getD ((t.xs.length : Int) - 1).toNat default = 0) else false) && t.xs.all num
theorem j7 {α : Type} {p : α → Bool} {xs : List α} (h : ∀ j (hj : j < xs.length), p xs[j] = true) : xs.all p = true := by
 rw [List.all_eq_true]; intro x hx
 obtain ⟨j, hj, rfl⟩ := List.mem_iff_getElem.1 hx
 exact h j hj
theorem gU {α : Type} {p : α → Bool} {xs : List α} (j : Nat) (hj : j < xs.length) (h : p xs[j] = false) : xs.all p = false := by
 rw [List.all_eq_false]; exact ⟨xs[j], List.getElem_mem _, by simp [h]⟩
theorem ar {α : Type} [Inhabited α] {xs : List α} {j : Nat} (hj : j < xs.length) : xs.getD j default = xs[j] := by simp [hj]

theorem kX {x lo hi : Int} : MQ h1 h2 42 [eI x, eI lo, eI hi] [] (Plain (eB (decide (lo ≤ x) && decide (x ≤ hi)))) := by
 refine aA ?_ Z
 refine jB 15 h1 h2 Tryz.func42 Z Z Z fun O hF => ?_
 refine ac (js O Z (aP (j4 O Z Z Z Z (aS 3 Z Z Z (fun hx => AN.step hx Z Z Z (V O Z) Z Z ( AN.step hx Z Z Z (V O Z) Z Z ( AN.step hx Z Z Z (V O Z) Z Z ( AN.nil)))) Z Z (AOps.step (aM O Z Z Z Z Z) Z Z Z (js O Z (jr ?_)))))))
 refine ⟨.inl Z, _, ak, _, Z, ?_⟩
 rw [Bool.cond_false_right]
theorem ul {x : Int} : MQ h1 h2 133 [eI x] [] (Plain (eB (num x))) := by
 refine aA ?_ Z
 refine jB 5 h1 h2 Tryz.func133 Z Z Z fun O hF => ?_
 refine ac (js O Z (aP (js O Z (ae O Z Z Z Z (kX h1 h2) (aa Z) Z Z Z Z Z (B0 := 5000) Z (js O Z (jr ?_))))))
 refine ⟨.inl Z, _, ak, _, Z, ?_⟩
 first | rfl | skip
variable {t : Tm}
theorem yp : MQ h1 h2 105 [ptr t.cells] [] (Plain (eB t.ok)) := by
 refine aA ?_ Z
 refine jB 49 h1 h2 Tryz.func105 Z Z Z fun O hF => ?_
 have hl : t.xs.length ≤ L := by simpa [As.fact, A.fact, M.fact, D.fact, Ds.fact] using hF.1.2.1.1
 refine ac (js O Z (aP (j4 O Z Z Z Z (bo O Z (js O Z (jn (af (ac (j4 O Z Z Z Z (ae O Z Z Z Z (ul h1 h2) (aa Z) Z Z Z Z Z (B0 := 15000) Z (j2 O Z Z (aS 2 Z Z Z (fun hx => AN.step hx Z Z Z (V O Z) Z Z ( AN.step hx Z Z Z (V O Z) Z Z ( AN.nil))) Z Z (AOps.step (aK O Z Z Z Z Z) Z Z Z (js O Z (aS 13 Z Z Z (fun hx => AN.step hx Z Z Z (V O Z) Z Z ( AN.step hx Z Z Z (V O Z) Z Z ( AN.step hx Z Z Z (V O Z) Z Z ( pH 9 Z Z Z Z (fun hx' => AN.step hx' Z Z Z (V O Z) Z Z ( AN.step hx' Z Z Z (V O Z) Z Z ( AN.step hx' Z Z Z (V O Z) Z Z ( AN.step hx' Z Z Z (V O Z) Z Z ( AN.step hx' Z Z Z (V O Z) Z Z ( AN.step hx' Z Z Z (vF O Z) Z Z ( AN.step hx' Z Z Z (vD O Z) Z Z ( AN.step hx' Z Z Z (V O Z) Z Z ( AN.step hx' Z Z Z (V O Z) Z Z ( AN.nil)))))))))) Z Z ( AN.step hx Z Z Z (aM O Z Z Z Z Z) Z Z ( AN.nil)))))) Z Z (AOps.step (aK O Z Z Z Z Z) Z Z Z (jn (ab O Z Z (fun hc34 => ?_) (fun hc34 => ?_)))))))))))))))))))
 try simp only [aN] at hc34
 refine ac (js O Z (jr ?_))
 refine ⟨.inl Z, _, ak, _, Z, ?_⟩
 simp only [Tm.ok, hc34, Bool.not_true, Bool.false_and]
 try simp only [aN] at hc34
 refine ah (af (ac (js O Z (jn (am (ap (X := Nat) (fun i => ⟨[(0, ptr t.cells), (3, eI t.xs.length), (4, eI i)], []⟩) (fun i => i ≤ t.xs.length ∧ ∀ j (h : j < t.xs.length), j < i → num t.xs[j] = true) (fun i => t.xs.length - i) 0 (Ent.env ⟨Z, Z, Z, trivial⟩) ?_ (fun i hi => ?_)))))))
 exact ⟨cm _, fun j h hj => absurd hj (Nat.not_lt_zero j)⟩
 refine af (ac (j3 O Z Z Z (jn (ab O Z Z (fun hc37 => ?_) (fun hc37 => ?_)))))
 try simp only [aN] at hc37
 refine ah (af (am (ac (j4 O Z Z Z Z (js O Z (f7 O Z Z (js O Z (ae O Z Z Z Z (ul h1 h2) (aa Z) Z Z Z Z Z (B0 := 48000) Z (js O Z (jn (ab O Z Z (fun hc48 => ?_) (fun hc48 => ?_))))))))))))
 try simp only [aN] at hc48
 refine ac (js O Z (jr ?_))
 refine ⟨.inl Z, _, ak, _, Z, ?_⟩
 rw [Int.toNat_natCast, ar (by omega)] at hc48
 simp only [Tm.ok, gU i (by omega) hc48, Bool.and_false]
 try simp only [aN] at hc48
 refine ah (aj (js O Z (ji O Z (js O Z (jn ?_)))))
 refine ⟨i + 1, Ent.env ⟨Z, Z, Z, trivial⟩, ⟨by omega, fun j h hj => ?_⟩, by omega⟩
 by_cases e : j = i
 subst e; rw [Int.toNat_natCast, ar h] at hc48; exact hc48
 exact hi.2 j h (by omega)
 try simp only [aN] at hc37
 refine aQ (ac (js O Z (jr ?_)))
 refine ⟨.inl Z, _, ak, _, Z, ?_⟩
 simp only [Tm.ok, hc34, Bool.not_false, Bool.true_and]
 rw [j7 (fun j hj => hi.2 j hj (by omega))]
abbrev aD (xs : List Int) : B := .row true 1 (xs.map fun n => [.int .i64 n])
abbrev bM (xs : List Int) : A := .c (.d (gj xs))
variable {xs : List Int}
theorem wo : MQ h1 h2 116 [bM xs] [] (Rows (.c (.rs 0 0 xs.length)) [aD xs]) := by
 refine bh (jB 6 h1 h2 Tryz.func116 Z Z Z fun O hF => ?_)
 have hl : xs.length ≤ L := by simpa [As.fact, A.fact, M.fact, D.fact, Ds.fact] using hF.1.1
 refine ?_
 refine ac (js O Z (aP (AOps.heap (aZ O Z Z Z) Z (js O Z (AOps.heap (bH (own := true) O Z Z Z Z Z Z Z Z Z Z Z Z Z Z Z Z (.row Z Z) (.slc (.inr (Scal.map (fun _ => rfl)))) (by simp) Z (by first | omega | (dsimp only [bt, jI, List.length_nil]; omega) | (simp only [aN] at *; omega) | (simp; omega)) (by first | omega | (dsimp only [bt, jI, List.length_nil]; omega) | (simp only [aN] at *; omega) | (simp; omega)) Z Z) Z (js O Z (jr ?_)))))))
 refine ⟨.inl Z, _, ak, _, Z, [5], by decide, Z, ?_, ?_⟩
 simp [A.lab, M.lab]
 rfl
theorem wn : MQ h1 h2 170 [bM xs] [] (Rows (.c (.rs 0 0 xs.length)) [aD xs]) := by
 refine bh (jB 6 h1 h2 Tryz.func170 Z Z Z fun O hF => ?_)
 have hl : xs.length ≤ L := by simpa [As.fact, A.fact, M.fact, D.fact, Ds.fact] using hF.1.1
 refine ?_
 refine ac (js O Z (aP (AOps.heap (aZ O Z Z Z) Z (js O Z (AOps.heap (bH (own := true) O Z Z Z Z Z Z Z Z Z Z Z Z Z Z Z Z (.row Z Z) (.slc (.inr (Scal.map (fun _ => rfl)))) (by simp) Z (by first | omega | (dsimp only [bt, jI, List.length_nil]; omega) | (simp only [aN] at *; omega) | (simp; omega)) (by first | omega | (dsimp only [bt, jI, List.length_nil]; omega) | (simp only [aN] at *; omega) | (simp; omega)) Z Z) Z (js O Z (jr ?_)))))))
 refine ⟨.inl Z, _, ak, _, Z, [5], by decide, Z, ?_, ?_⟩
 simp [A.lab, M.lab]
 rfl
theorem BF : MQ h1 h2 97 [bM xs] [] (Rows (.c (.rs 0 0 xs.length)) [aD xs]) := by
 refine bh (jB 22 h1 h2 Tryz.func97 Z Z Z fun O hF => ?_)
 have hl : xs.length ≤ L := by simpa [As.fact, A.fact, M.fact, D.fact, Ds.fact] using hF.1.1
 refine ac (js O Z (aP (js O Z (bo O Z (AOps.heap (cd O Z Z Z Z Z Z Z Z Z (by first | omega | (simp at *; omega)) (by first | omega | (simp at *; omega)) (by first | omega | (simp at *; omega)) (by first | omega | (dsimp only; omega) | (simp only [aN] at *; omega)) (by first | omega | (simp at *; omega)) Z Z Z) Z (js O Z (jn (af (ac (js O Z (jn (am (ap (X := Nat × List Int) (fun x => ⟨[(0, bM xs), (3, .c (.rs 7 0 xs.length)), (4, eI x.1)], [(7, aD x.2)]⟩) (fun x => x.1 ≤ xs.length ∧ x.2.length = xs.length ∧ ∀ j, j < x.1 → x.2[j]? = xs[j]?) (fun x => xs.length - x.1) (0, List.replicate xs.length 0) (Ent.to ⟨Z, Z, Z, trivial⟩ (by simp [ins, aD])) ?_ (fun x hi => ?_))))))))))))))
 exact ⟨cm _, List.length_replicate, fun j hj => absurd hj (Nat.not_lt_zero j)⟩
 refine af (ac (j2 O Z Z (bo O Z (js O Z (jn (ab O Z Z (fun hc11 => ?_) (fun hc11 => ?_)))))))
 try simp only [aN] at hc11
 refine ah (af (am (aj (j4 O Z Z Z Z (f7 O Z Z (js O Z (aU O Z Z (AOps.heap (bd (ex := [.int .i64 (x.2.getD x.1 default)]) (xs' := (x.2.set x.1 (xs.getD x.1 default)).map fun n => [.int .i64 n]) O Z Z Z Z Z Z Z Z Z Z Z Z Z Z (by simp [hi.2.1, show x.1 < xs.length by omega]) (by simp [List.map_set])) Z (jn (aj (js O Z (ji O Z (js O Z (jn ?_))))))))))))))
 refine ⟨(x.1 + 1, x.2.set x.1 (xs.getD x.1 default)), Ent.to ⟨Z, Z, Z, trivial⟩ Z, ⟨by omega, by simp [hi.2.1], fun j hj => ?_⟩, by omega⟩
 rw [List.getElem?_set]
 split
 rename_i e; subst e; simp [hi.2.1, show x.1 < xs.length by omega]
 exact hi.2.2 j (by omega)
 try simp only [aN] at hc11
 refine aQ (ac (j2 O Z Z (jr ?_)))
 have e : x.2 = xs := List.ext_getElem? fun j => by
  rcases Nat.lt_or_ge j x.1 with h | h
  ·
   exact hi.2.2 j h
  ·
   rw [List.getElem?_eq_none (by omega), List.getElem?_eq_none (by omega)]
 refine ⟨.inl Z, _, ak, _, Z, [7], by decide, Z, Z, ?_⟩
 rw [← e]; rfl

theorem BI {ys : List Int} : MQ h1 h2 73 [bM xs, bM ys] [] (Plain (eB (decide (xs = ys)))) := by
 refine aA ?_ Z
 refine jB 26 h1 h2 Tryz.func73 Z Z Z fun O hF => ?_
 have hl : xs.length ≤ L := by simpa [As.fact, A.fact, M.fact, D.fact, Ds.fact] using hF.1.1
 have hl2 : ys.length ≤ L := by simpa [As.fact, A.fact, M.fact, D.fact, Ds.fact] using hF.2.1.1
 refine ac (js O Z (jn (af (ac (js O Z (bo O Z (js O Z (bo O Z (js O Z (jn (ab O Z Z (fun hc10 => ?_) (fun hc10 => ?_))))))))))))
 try simp only [aN] at hc10
 refine ac (js O Z (jr ?_))
 refine ⟨.inl Z, _, ak, _, Z, ?_⟩
 rw [decide_eq_false (fun e => by subst e; simp at hc10)]
 try simp only [aN] at hc10
 refine ah (af (ac (js O Z (jn (am (ap (X := Nat) (fun i => ⟨[(0, bM xs), (1, bM ys), (5, eI i)], []⟩) (fun i => i ≤ xs.length ∧ ∀ j, j < i → xs[j]? = ys[j]?) (fun i => xs.length - i) 0 (Ent.env ⟨Z, Z, Z, trivial⟩) ?_ (fun i hi => ?_)))))))
 exact ⟨cm _, fun j hj => absurd hj (Nat.not_lt_zero j)⟩
 refine af (ac (j2 O Z Z (bo O Z (js O Z (jn (ab O Z Z (fun hc14 => ?_) (fun hc14 => ?_)))))))
 try simp only [aN] at hc14
 refine ah (af (am (af (fI O [_,_,_,_,_,_,_,_,_] [pn [] 0 0, pn [] 0 0, pn [0,1] 0 0, pn [0,1,2] 0 0, pn [] 0 0, pn [] 0 0, pn [4,5] 0 0, pn [4,5,6] 0 0, pn (rg 0 8) 0 0] [] [_] (kc O Z (kc O Z (ai (vD O Z) (kc O Z (kc O Z (kc O Z (ai (vD O Z) (kc O Z (kc O Z trivial))))))))) ?_))))
 refine ab O Z Z (fun hc25 => ?_) (fun hc25 => ?_)
 try simp only [aN] at hc25
 refine ac (js O Z (jr ?_))
 refine ⟨.inl Z, _, ak, _, Z, ?_⟩
 rw [decide_eq_false (fun e => by subst e; simp at hc25)]
 try simp only [aN] at hc25
 refine ah (aj (js O Z (ji O Z (js O Z (jn ?_)))))
 refine ⟨i + 1, Ent.env ⟨Z, Z, Z, trivial⟩, ⟨by omega, fun j hj => ?_⟩, by omega⟩
 rcases Nat.lt_or_ge j i with h | h
 exact hi.2 j h
 obtain rfl : j = i := by omega
 rw [Int.toNat_natCast, ar (by omega), ar (by omega)] at hc25
 rw [List.getElem?_eq_getElem (by omega), List.getElem?_eq_getElem (by omega), hc25]
 try simp only [aN] at hc14
 refine aQ (ac (js O Z (jr ?_)))
 refine ⟨.inl Z, _, ak, _, Z, ?_⟩
 have e : xs = ys := List.ext_getElem? fun j => by
  rcases Nat.lt_or_ge j i with h | h
  ·
   exact hi.2 j h
  ·
   rw [List.getElem?_eq_none (by omega), List.getElem?_eq_none (by omega)]
 rw [decide_eq_true e]
deriving instance DecidableEq for Tm
abbrev z4 (t : Tm) : A := .agg [.d (.int .i64 t.c), .d (gj t.xs)]
abbrev fH (ts : List Tm) : D := .slc 2 (ts.map Tm.cells)
abbrev cD (ts : List Tm) : A := .c (.d (fH ts))
abbrev fO (ts : List Tm) : B := .row true 2 (ts.map Tm.cells)

theorem c87 : MQ h1 h2 84 [z4 t] [] (Rows (.agg [.d (.int .i64 t.c), .rs 0 0 t.xs.length]) [aD t.xs]) := by
 refine bh (jB 12 h1 h2 Tryz.func84 Z Z Z fun O hF => ?_)
 refine ac (jx O Z (jl O Z (aP (jl O Z (aP (j3 O Z Z Z (jo O Z (aP (j2 O Z Z (aI O (B0 := 10000) Z Z Z Z (BF h1 h2) (aa Z) Z Z Z Z Z Z (js O Z (jo O Z (aP (js O Z (jo O Z (jr ?_))))))))))))))))
 refine ⟨.inl Z, _, ak, _, Z, [10000], by decide, Z, Z, Z⟩
theorem c92 {s : Tm} : MQ h1 h2 93 [z4 s, z4 t] [] (Plain (eB (decide (s = t)))) := by
 refine aA ?_ Z
 refine jB 16 h1 h2 Tryz.func93 Z Z Z fun O hF => ?_
 refine ac (jx O Z (jx O Z (js O Z (jn (af (ac (j4 O Z Z Z Z (js O Z (jn (ab O Z Z (fun hc9 => ?_) (fun hc9 => ?_)))))))))))
 try simp only [aN] at hc9
 refine ac (js O Z (jr ?_))
 refine ⟨.inl Z, _, ak, _, Z, ?_⟩
 rw [decide_eq_false (fun e => hc9 (by rw [e]))]
 try simp only [aN] at hc9
 refine ah (af (ac (j4 O Z Z Z Z (ae O Z Z Z Z (BI h1 h2) (aa Z) Z Z Z Z Z (B0 := 15000) Z (js O Z (jn (ab O Z Z (fun hc15 => ?_) (fun hc15 => ?_))))))))
 try simp only [aN] at hc15
 refine ac (js O Z (jr ?_))
 refine ⟨.inl Z, _, ak, _, Z, ?_⟩
 rw [decide_eq_false (fun e => hc15 (by rw [e]))]
 try simp only [aN] at hc15
 refine ah (ac (js O Z (jr ?_)))
 refine ⟨.inl Z, _, ak, _, Z, ?_⟩
 have e : s = t := by cases s; cases t; simp_all
 rw [decide_eq_true e]
def bO (left : Int) (n : Nat) : Int := if left < n then -1 else left - n
def Tm.size (t : Tm) : Nat := t.xs.length

theorem BG {L : Nat} (h1 : 4096 ≤ L) (h2 : L ≤ 9223372036854775807) {xs : List Int} {left : Int} (hl0 : 0 ≤ left) (hl1 : left ≤ 1048576) : MC Tryz.prog L 96 [bM xs, eI left] [] (Plain (eI (bO left xs.length))) := by
 refine aA ?_ Z
 have O := gk (nt := 12) h1 h2
 refine MC.body O Tryz.func96 (by kernel_rfl) Z Z (Nat.le_of_ble_eq_true Z) (fun hF => ?_)
 have hl : xs.length ≤ L := by simpa [As.fact, A.fact, M.fact, D.fact, Ds.fact] using hF.1.1
 refine ac (js O Z (aP (j2 O Z Z (bo O Z (ji O Z (js O Z (jn (af (ac (j2 O Z Z (jn (ab O Z Z (fun hc10 => ?_) (fun hc10 => ?_)))))))))))))
 try simp only [aN] at hc10
 refine ac (js O Z (jr ?_))
 refine ⟨.inl Z, _, ak, _, Z, ?_⟩
 rw [show bO left xs.length = -1 from if_pos (by omega)]
 try simp only [aN] at hc10
 refine ah (ac (j2 O Z Z (jr ?_)))
 refine ⟨.inl Z, _, ak, _, Z, ?_⟩
 rw [show bO left xs.length = left - xs.length from if_neg (by omega)]
theorem Ae {L : Nat} (h1 : 4096 ≤ L) (h2 : L ≤ 9223372036854775807) {t : Tm} {left : Int} (hl0 : 0 ≤ left) (hl1 : left ≤ 1048576) : MC Tryz.prog L 74 [z4 t, eI left] [] (Plain (eI (bO left t.size))) := by
 refine aA ?_ Z
 have O := gk (nt := 12) h1 h2
 refine MC.body O Tryz.func74 (by kernel_rfl) Z Z (Nat.le_of_ble_eq_true Z) (fun hF => ?_)
 refine ac (jx O Z (js O Z (aP (j3 O Z Z Z (ae O Z Z Z Z (BG h1 h2 hl0 hl1) (aa Z) Z Z Z Z Z (B0 := 9000) Z (js O Z (jn (af (ac (j2 O Z Z (jn (ab O Z Z (fun hc10 => ?_) (fun hc10 => ?_)))))))))))))
 try simp only [aN] at hc10
 refine ac (js O Z (jr ?_))
 refine ⟨.inl Z, _, ak, _, Z, ?_⟩
 have : bO left t.size = -1 := by unfold bO Tm.size at *; split at hc10 <;> simp_all <;> omega
 rw [this]
 try simp only [aN] at hc10
 refine ah (ac (j2 O Z Z (jr ?_)))
 refine ⟨.inl Z, _, ak, _, Z, ?_⟩
 rfl
def szs {α : Type} (f : α → Nat) (xs : List α) : Nat := xs.length + (xs.map f).sum
theorem fj {α : Type} [Inhabited α] (f : α → Nat) (xs : List α) (i : Nat) (h : i < xs.length) : ((xs.take (i + 1)).map f).sum = ((xs.take i).map f).sum + f (xs.getD i default) := by
 rw [List.take_add_one, List.map_append, List.sum_append, List.getElem?_eq_getElem h]
 simp [h]
theorem pg {α : Type} (f : α → Nat) (xs : List α) (i : Nat) : ((xs.take i).map f).sum ≤ (xs.map f).sum := by
 conv => rhs; rw [← List.take_append_drop i xs, List.map_append, List.sum_append]
 omega
theorem Ah {L : Nat} (h1 : 4096 ≤ L) (h2 : L ≤ 9223372036854775807) {ts : List Tm} {left : Int} (hl0 : 0 ≤ left) (hl1 : left ≤ 1048576) : MC Tryz.prog L 38 [cD ts, eI left] [] (Plain (eI (bO left (Al.szs Tm.size ts)))) := by
 refine aA ?_ Z
 have O := gk (nt := 27) h1 h2
 refine MC.body O Tryz.func38 (by kernel_rfl) Z Z (Nat.le_of_ble_eq_true Z) (fun hF => ?_)
 have hl : ts.length ≤ L := by simpa [As.fact, A.fact, M.fact, D.fact, Ds.fact] using hF.1.1
 refine ac (js O Z (aP (j2 O Z Z (bo O Z (ji O Z (js O Z (jn (af (ac (j2 O Z Z (jn (ab O Z Z (fun hc11 => ?_) (fun hc11 => ?_)))))))))))))
 try simp only [aN] at hc11
 refine ac (js O Z (jr ?_))
 refine ⟨.inl Z, _, ak, _, Z, ?_⟩
 rw [show bO left (Al.szs Tm.size ts) = -1 from if_pos (by unfold Al.szs; omega)]
 try simp only [aN] at hc11
 refine ah (af (ac (js O Z (jn (am (ap (X := Nat) (fun i => ⟨[(0, cD ts), (1, eI (left - ts.length - ((ts.take i).map Tm.size).sum)), (5, eI i)], []⟩) (fun i => i ≤ ts.length ∧ (0 : Int) ≤ left - ts.length - ((ts.take i).map Tm.size).sum) (fun i => ts.length - i) 0 (Ent.env ⟨Z, by simp [aB], Z, trivial⟩) ?_ (fun i hi => ?_)))))))
 exact ⟨cm _, by simp; omega⟩
 refine af (ac (j2 O Z Z (bo O Z (js O Z (jn (ab O Z Z (fun hc15 => ?_) (fun hc15 => ?_)))))))
 try simp only [aN] at hc15
 refine ah (af (am (ac (j2 O Z Z (f7 O Z Z (j2 O Z Z (ae O Z Z Z Z (Ae h1 h2 hi.2 (by omega)) (aa Z) Z Z Z Z Z (B0 := 24000) Z (js O Z (aP (j2 O Z Z (jn (ab O Z Z (fun hc25 => ?_) (fun hc25 => ?_)))))))))))))
 try simp only [aN] at hc25
 refine ac (js O Z (jr ?_))
 refine ⟨.inl Z, _, ak, _, Z, ?_⟩
 have e := fj Tm.size ts i (by omega)
 have e3 := pg Tm.size ts (i + 1)
 rw [Int.toNat_natCast] at hc25
 rw [show bO left (Al.szs Tm.size ts) = -1 from if_pos (by unfold bO at hc25; unfold Al.szs; split at hc25 <;> omega)]
 try simp only [aN] at hc25
 refine ah (aj (js O Z (ji O Z (js O Z (jn ?_)))))
 have e := fj Tm.size ts i (by omega)
 have e2 : bO (left - ts.length - ((ts.take i).map Tm.size).sum) (ts.getD i default).size = left - ts.length - ((ts.take (i + 1)).map Tm.size).sum := by
  unfold bO at hc25 ⊢
  rw [Int.toNat_natCast] at hc25
  split at hc25 <;> omega
 refine ⟨i + 1, Ent.env ⟨Z, ?_, Z, trivial⟩, ⟨by omega, ?_⟩, by omega⟩
 rw [← e2]; rfl
 rw [← e2]; rw [Int.toNat_natCast] at hc25; omega
 try simp only [aN] at hc15
 refine aQ (ac (j2 O Z Z (jr ?_)))
 refine ⟨.inl Z, _, ak, _, Z, ?_⟩
 obtain rfl : i = ts.length := by omega
 have e4 := hi.2
 rw [List.take_length] at e4 ⊢
 rw [show bO left (Al.szs Tm.size ts) = left - ts.length - (ts.map Tm.size).sum from by unfold bO Al.szs; rw [if_neg (by omega)]; omega]

theorem Ai {xs ys : List Tm} : MQ h1 h2 52 [cD xs, cD ys] [] (Plain (eB (decide (xs = ys)))) := by
 refine aA ?_ Z
 refine jB 27 h1 h2 Tryz.func52 Z Z Z fun O hF => ?_
 have hl : xs.length ≤ L := by simpa [As.fact, A.fact, M.fact, D.fact, Ds.fact] using hF.1.1
 have hl2 : ys.length ≤ L := by simpa [As.fact, A.fact, M.fact, D.fact, Ds.fact] using hF.2.1.1
 refine ac (js O Z (jn (af (ac (js O Z (bo O Z (js O Z (bo O Z (js O Z (jn (ab O Z Z (fun hc10 => ?_) (fun hc10 => ?_))))))))))))
 try simp only [aN] at hc10
 refine ac (js O Z (jr ?_))
 refine ⟨.inl Z, _, ak, _, Z, ?_⟩
 rw [decide_eq_false (fun e => by subst e; simp at hc10)]
 try simp only [aN] at hc10
 refine ah (af (ac (js O Z (jn (am (ap (X := Nat) (fun i => ⟨[(0, cD xs), (1, cD ys), (5, eI i)], []⟩) (fun i => i ≤ xs.length ∧ ∀ j, j < i → xs[j]? = ys[j]?) (fun i => xs.length - i) 0 (Ent.env ⟨Z, Z, Z, trivial⟩) ?_ (fun i hi => ?_)))))))
 exact ⟨cm _, fun j hj => absurd hj (Nat.not_lt_zero j)⟩
 refine af (ac (j2 O Z Z (bo O Z (js O Z (jn (ab O Z Z (fun hc14 => ?_) (fun hc14 => ?_)))))))
 try simp only [aN] at hc14
 refine ah (af (am (af (fI O [_,_,_,_,_,_,_,_,_,_] [pn [] 0 0, pn [] 0 0, pn [0,1] 0 0, pn [0,1,2] 0 0, pn [] 0 0, pn [] 0 0, pn [4,5] 0 0, pn [4,5,6] 0 0, pe (rg 0 8) 0, pn (rg 0 9) 1 1] [8] [_,_] (kc O Z (kc O Z (ai (vD O Z) (kc O Z (kc O Z (kc O Z (ai (vD O Z) (kc O Z (ai (bm O (B0 := 26000) Z Z Z Z (c92 h1 h2) (aa Z) Z Z Z Z Z) (kc O Z trivial)))))))))) ?_))))
 refine ab O Z Z (fun hc26 => ?_) (fun hc26 => ?_)
 try simp only [aN] at hc26
 refine ac (js O Z (jr ?_))
 refine ⟨.inl Z, _, ak, _, Z, ?_⟩
 rw [decide_eq_false (fun e => by subst e; simp at hc26)]
 try simp only [aN] at hc26
 refine ah (aj (js O Z (ji O Z (js O Z (jn ?_)))))
 refine ⟨i + 1, Ent.env ⟨Z, Z, Z, trivial⟩, ⟨by omega, fun j hj => ?_⟩, by omega⟩
 rcases Nat.lt_or_ge j i with h | h
 exact hi.2 j h
 obtain rfl : j = i := by omega
 rw [Int.toNat_natCast, ar (by omega), ar (by omega)] at hc26
 rw [List.getElem?_eq_getElem (by omega), List.getElem?_eq_getElem (by omega), hc26]
 try simp only [aN] at hc14
 refine aQ (ac (js O Z (jr ?_)))
 refine ⟨.inl Z, _, ak, _, Z, ?_⟩
 have e : xs = ys := List.ext_getElem? fun j => by
  rcases Nat.lt_or_ge j i with h | h
  ·
   exact hi.2 j h
  ·
   rw [List.getElem?_eq_none (by omega), List.getElem?_eq_none (by omega)]
 rw [decide_eq_true e]
variable {ts : List Tm}
theorem Ag : MQ h1 h2 46 [cD ts] [] (Rows (.c (.rs 0 0 ts.length)) [fO ts]) := by
 refine bh (jB 23 h1 h2 Tryz.func46 Z Z Z fun O hF => ?_)
 have hl : ts.length ≤ L := by simpa [As.fact, A.fact, M.fact, D.fact, Ds.fact] using hF.1.1
 refine ac (js O Z (aP (js O Z (bo O Z (AOps.heap (cd O Z Z Z Z Z Z Z Z Z (by first | omega | (simp at *; omega)) (by first | omega | (simp at *; omega)) (by first | omega | (simp at *; omega)) (by first | omega | (dsimp only; omega) | (simp only [aN] at *; omega)) (by first | omega | (simp at *; omega)) Z Z Z) Z (js O Z (jn (af (ac (js O Z (jn (am (ap (X := Nat × List Tm) (fun x => ⟨[(0, cD ts), (3, .c (.rs 7 0 ts.length)), (4, eI x.1)], [(7, fO x.2)]⟩) (fun x => x.1 ≤ ts.length ∧ x.2.length = ts.length ∧ ∀ j, j < x.1 → x.2[j]? = ts[j]?) (fun x => ts.length - x.1) (0, List.replicate ts.length ⟨0, []⟩) ((Ent.rowLe 7 Z (NLess.replicate (.cons .refl (.cons (.nil (sz := 1)) .nil)))).trans (Ent.to ⟨Z, Z, Z, trivial⟩ (by simp [ins, dV, fO]))) ?_ (fun x hi => ?_))))))))))))))
 exact ⟨cm _, List.length_replicate, fun j hj => absurd hj (Nat.not_lt_zero j)⟩
 refine af (ac (j2 O Z Z (bo O Z (js O Z (jn (ab O Z Z (fun hc11 => ?_) (fun hc11 => ?_)))))))
 try simp only [aN] at hc11
 refine ah (af (am (aj (j4 O Z Z Z Z (f7 O Z Z (js O Z (aI O (B0 := 21000) Z Z Z Z (c87 h1 h2) (aa Z) Z Z Z Z Z Z (aU O Z Z (AOps.heap (eR (ex := (x.2.getD x.1 default).cells) (xs' := (x.2.set x.1 (ts.getD x.1 default)).map Tm.cells) O Z Z Z Z Z Z Z (.d Z (.rs Z (by simp) .nil)) Z Z Z Z Z Z (by simp [hi.2.1, show x.1 < ts.length by omega]) (by simp [List.map_set])) Z (jn (aj (js O Z (ji O Z (js O Z (jn ?_)))))))))))))))
 refine ⟨(x.1 + 1, x.2.set x.1 (ts.getD x.1 default)), Ent.to ⟨Z, Z, Z, trivial⟩ Z, ⟨by omega, by simp [hi.2.1], fun j hj => ?_⟩, by omega⟩
 rw [List.getElem?_set]
 split
 rename_i e; subst e; simp [hi.2.1, show x.1 < ts.length by omega]
 exact hi.2.2 j (by omega)
 try simp only [aN] at hc11
 refine aQ (ac (j2 O Z Z (jr ?_)))
 have e : x.2 = ts := List.ext_getElem? fun j => by
  rcases Nat.lt_or_ge j x.1 with h | h
  ·
   exact hi.2.2 j h
  ·
   rw [List.getElem?_eq_none (by omega), List.getElem?_eq_none (by omega)]
 refine ⟨.inl Z, _, ak, _, Z, [7], by decide, Z, Z, ?_⟩
 rw [← e]; rfl
structure Sm where
  kind : Int
  var : Int
  event : Int
  sum : Tm
  index : Tm
  facts : List Tm
  deriving Inhabited, DecidableEq
theorem eU {left : Int} (h : 0 ≤ left) (n : Nat) : bO left n ≤ left := by unfold bO; split <;> omega
theorem gL {left : Int} {a : Nat} (b : Nat) (h : 0 ≤ bO left a) : bO (bO left a) b = bO left (a + b) := by unfold bO at *; split at h <;> repeat' (first | omega | split)
theorem ng {left : Int} {a : Nat} (b : Nat) (h : bO left a < 0) : bO left (a + b) = -1 := by unfold bO at *; split at h <;> repeat' (first | omega | split)

structure Pm where
  pre : List Tm
  body : List Sm
  post : List Tm
  deriving Inhabited, DecidableEq
structure Sx where
  vars : List Int
  cells : List Int
  deriving Inhabited, DecidableEq
def bq {α : Type} (f : Int → α → α) (sz : α → Nat) : Int → List α → List α
  | _, [] => []
  | k, a :: r => f k a :: bq f sz (k + sz a) r
def bC {α : Type} (sz : α → Nat) (l : List α) : Nat := (l.map sz).sum
def mk {α : Type} (f : Int → α → α) (sz : α → Nat) (k : Int) (i : Nat) (l : List α) : List α := bq f sz k (l.take i) ++ l.drop i
section
variable {α : Type} {f : Int → α → α} {sz : α → Nat}
theorem bv : ∀ {k : Int} {l : List α}, (bq f sz k l).length = l.length
 | _, [] => rfl
 | _, a :: r => by simp [bq, bv]
theorem fz {k : Int} {i : Nat} {l : List α} : (mk f sz k i l).length = l.length := by
 simp [mk, bv]; omega
theorem i8 {k : Int} {l : List α} : mk f sz k 0 l = l := by simp [mk, bq]
theorem li {k : Int} {i : Nat} {l : List α} (h : l.length ≤ i) : mk f sz k i l = bq f sz k l := by
 simp [mk, List.take_of_length_le h, List.drop_of_length_le h]
theorem jY {k : Int} {i : Nat} {l : List α} (h : i < l.length) : (mk f sz k i l)[i]? = some l[i] := by
 rw [mk, List.getElem?_append_right (by simp [bv]; omega)]
 simp [bv, Nat.min_eq_left (Nat.le_of_lt h)]
theorem lQ : ∀ {k : Int} {l : List α} {a : α}, bq f sz k (l ++ [a]) = bq f sz k l ++ [f (k + bC sz l) a]
 | k, [], a => by simp [bq, bC]
 | k, b :: r, a => by
  have : k + (sz b : Int) + (bC sz r : Int) = k + (bC sz (b :: r) : Int) := by simp [bC]; omega
  simp [bq, lQ, this]
theorem gy {l : List α} {i : Nat} (h : i < l.length) : bC sz (l.take (i + 1)) = bC sz (l.take i) + sz l[i] := by
 rw [List.take_succ_eq_append_getElem h]
 simp only [bC, List.map_append, List.sum_append, List.map_cons, List.map_nil, List.sum_cons, List.sum_nil]; omega
theorem ll {l : List α} {i : Nat} : bC sz (l.take i) ≤ bC sz l := by
 have : bC sz l = bC sz (l.take i) + bC sz (l.drop i) := by rw [bC, bC, bC, ← List.sum_append, ← List.map_append, List.take_append_drop]
 omega
theorem gQ {k : Int} {i : Nat} {l : List α} (h : i < l.length) : (mk f sz k i l).set i (f (k + bC sz (l.take i)) l[i]) = mk f sz k (i + 1) l := by
 have h1 : (bq f sz k (l.take i)).length = i := by rw [bv, List.length_take]; omega
 rw [mk, List.set_append_right _ _ (by omega), h1, Nat.sub_self, mk, List.take_succ_eq_append_getElem h, lQ, List.drop_eq_getElem_cons h, List.set_cons_zero]
 simp only [er, List.singleton_append]
end
abbrev mI : Int → Int → Int := fun k _ => k
abbrev dm : Int → Nat := fun _ => 1
theorem oA {l : List Int} : bC dm l = l.length := by
 induction l with
 | nil => rfl
 | cons a r ih =>
  have : dm a = 1 := rfl
  simp only [bC, List.map_cons, List.sum_cons, jI] at ih ⊢; omega
theorem mH {k : Int} {xs : List Int} {j : Nat} (h : j < xs.length) : (bq mI dm k xs)[j]? = some (k + j) := by
 have h1 := jY (f := mI) (sz := dm) (k := k) (l := xs) h
 have h2 := gQ (f := mI) (sz := dm) (k := k) (l := xs) h
 have h3 : (mk mI dm k (j + 1) xs)[j]? = some (k + j) := by
  rw [← h2, List.getElem?_set]
  have e : bC dm (xs.take j) = j := by rw [oA, List.length_take]; omega
  simp [fz, h, e]
 have h4 : (mk mI dm k (j + 1) xs)[j]? = (bq mI dm k (xs.take (j + 1)))[j]? := by
  rw [mk, List.getElem?_append_left (by rw [bv, List.length_take]; omega)]
 have key : ∀ {k : Int} {l : List Int} {n j : Nat}, j < n → (bq mI dm k (l.take n))[j]? = (bq mI dm k l)[j]? := by
  intro k l
  induction l generalizing k with
  | nil => intro n j _; simp
  | cons a r ih =>
   intro n j hj
   cases n with
   | zero => omega
   | succ n =>
    cases j with
    | zero => simp [bq]
    | succ j => simp only [List.take_succ_cons, bq, List.getElem?_cons_succ]; exact ih (by omega)
 rw [← key (Nat.lt_succ_self j), ← h4, h3]
abbrev mT : Int → Tm → Tm := fun k t => ⟨k, bq mI dm (k + 1) t.xs⟩
abbrev nT : Tm → Nat := fun t => 1 + t.xs.length
variable {k : Int}
theorem z3 (hk0 : 0 ≤ k) (hk1 : k ≤ 1073741824) : MQ h1 h2 58 [.c (.rs 0 0 xs.length), eI k] [(0, aD xs)] (bb (eI (k + xs.length)) [(0, aD (bq mI dm k xs))]) := by
 refine jH 19 [0] h1 h2 Tryz.func58 Z Z Z Z fun O hF => ?_
 refine fG 0 Z (fun hB => ?_)
 have hl : xs.length ≤ L := by simpa [B.fact] using hB.1
 refine ac (js O Z (jn (af (ac (js O Z (jn (am (ap (X := Nat) (fun i => ⟨[(0, .c (.rs 0 0 xs.length)), (1, eI (k + i)), (5, eI i)], [(0, aD (mk mI dm k i xs))]⟩) (fun i => i ≤ xs.length) (fun i => xs.length - i) 0 (Ent.to ⟨Z, by simp [bT, aB], Z, trivial⟩ (by simp [i8])) ?_ (fun i hi => ?_)))))))))
 exact cm _
 refine af (ac (j2 O Z Z (aU O Z Z (js O Z (jn (ab O Z Z (fun hc9 => ?_) (fun hc9 => ?_)))))))
 try simp only [aN] at hc9
 refine ah (af (am (ac (j3 O Z Z Z (aU O Z Z (AOps.heap (bd (ex := [.int .i64 (xs.getD i default)]) (xs' := (mk mI dm k (i + 1) xs).map fun n => [.int .i64 n]) O Z Z Z Z Z Z Z Z Z Z Z Z Z Z (by simp [jY (f := mI) (sz := dm) (k := k) (show i < xs.length by omega), show i < xs.length by omega]) (by rw [← gQ (show i < xs.length by omega), oA, List.length_take, Nat.min_eq_left hi]; simp [List.map_set])) Z (jn (aj (js O Z (ji O Z (js O Z (jn (aj (js O Z (ji O Z (js O Z (jn ?_)))))))))))))))))
 refine ⟨i + 1, Ent.to ⟨Z, ?_, Z, trivial⟩ Z, by omega, by omega⟩
 show some (eI (k + i + 1)) = some (eI (k + (i + 1 : Nat)))
 rw [Int.natCast_add, ← Int.add_assoc]; rfl
 try simp only [aN] at hc9
 refine aQ (ac (j2 O Z Z (jr ?_)))
 refine ⟨.inl Z, _, ak, _, Z, ?_⟩
 obtain rfl : i = xs.length := by omega
 rw [li (bw _)]
 exact ⟨Z, Z⟩
theorem c21 (hk0 : 0 ≤ k) (hk1 : k ≤ 1073741824) : MQ h1 h2 60 [bM xs, eI k] [] (Plain (eI (if xs = bq mI dm k xs then k + xs.length else -1))) := by
 refine aA ?_ Z
 refine jB 21 h1 h2 Tryz.func60 Z Z Z fun O hF => ?_
 have hl : xs.length ≤ L := by simpa [As.fact, A.fact, M.fact, D.fact, Ds.fact] using hF.1.1
 refine ac (js O Z (jn (af (ac (js O Z (jn (am (ap (X := Nat) (fun i => ⟨[(0, bM xs), (1, eI (k + i)), (5, eI i)], []⟩) (fun i => i ≤ xs.length ∧ ∀ j, j < i → xs[j]? = some (k + j)) (fun i => xs.length - i) 0 (Ent.env ⟨Z, by simp [bT, aB], Z, trivial⟩) ?_ (fun i hi => ?_)))))))))
 exact ⟨cm _, fun j hj => absurd hj (Nat.not_lt_zero j)⟩
 refine af (ac (j2 O Z Z (bo O Z (js O Z (jn (ab O Z Z (fun hc9 => ?_) (fun hc9 => ?_)))))))
 try simp only [aN] at hc9
 refine ah (af (am (af (ac (j2 O Z Z (f7 O Z Z (j3 O Z Z Z (jn (ab O Z Z (fun hc17 => ?_) (fun hc17 => ?_))))))))))
 try simp only [aN] at hc17
 refine ac (js O Z (jr ?_))
 refine ⟨.inl Z, _, ak, _, Z, ?_⟩
 rw [if_neg (fun e => hc17 ?_)]
 have h1 := mH (k := k) (show i < xs.length by omega)
 rw [← e, List.getElem?_eq_getElem (by omega)] at h1
 rw [Int.toNat_natCast, ar (by omega)]; simpa using h1
 try simp only [aN] at hc17
 refine ah (aj (js O Z (ji O Z (js O Z (jn (aj (js O Z (ji O Z (js O Z (jn ?_))))))))))
 refine ⟨i + 1, Ent.env ⟨Z, ?_, Z, trivial⟩, ⟨by omega, fun j hj => ?_⟩, by omega⟩
 show some (eI (k + i + 1)) = some (eI (k + (i + 1 : Nat)))
 rw [Int.natCast_add, ← Int.add_assoc]; rfl
 rcases Nat.lt_or_ge j i with h | h
 exact hi.2 j h
 obtain rfl : j = i := by omega
 rw [Int.toNat_natCast, ar (by omega)] at hc17
 rw [List.getElem?_eq_getElem (by omega)]; simpa using hc17
 try simp only [aN] at hc9
 refine aQ (ac (j2 O Z Z (jr ?_)))
 refine ⟨.inl Z, _, ak, _, Z, ?_⟩
 obtain rfl : i = xs.length := by omega
 rw [if_pos (List.ext_getElem? fun j => ?_)]
 rcases Nat.lt_or_ge j xs.length with h | h
 rw [mH h]; exact hi.2 j h
 rw [List.getElem?_eq_none (by omega), List.getElem?_eq_none (by rw [bv]; omega)]

theorem yk : MQ h1 h2 58 [.c (.d (gj [])), eI k] [] (Plain (eI k)) := by
 refine aA ?_ Z
 refine jB 19 h1 h2 Tryz.func58 Z Z Z fun O hF => ?_
 refine ac (js O Z (jn (af (ac (js O Z (jn (am (ap (X := Nat) (fun i => ⟨[(0, .c (.d (gj []))), (1, eI k), (5, eI 0)], []⟩) (fun i => True) (fun i => 0) 0 (Ent.env ⟨Z, Z, Z, trivial⟩) ?_ (fun i hi => ?_)))))))))
 trivial
 refine af (ac (j2 O Z Z (bo O Z (js O Z (jn (ab O Z Z (fun hc9 => ?_) (fun hc9 => ?_)))))))
 try simp only [aN] at hc9
 exact absurd hc9 (by simp)
 try simp only [aN] at hc9
 refine aQ (ac (j2 O Z Z (jr ?_)))
 refine ⟨.inl Z, _, ak, _, Z, ?_⟩
 first | rfl | skip
theorem A5 : MQ h1 h2 55 [.c (.d (fH [])), eI k] [] (Plain (eI k)) := by
 refine aA ?_ Z
 refine jB 27 h1 h2 Tryz.func55 Z Z Z fun O hF => ?_
 refine ac (js O Z (jn (af (ac (js O Z (jn (am (ap (X := Nat) (fun i => ⟨[(0, .c (.d (fH []))), (1, eI k), (5, eI 0)], []⟩) (fun i => True) (fun i => 0) 0 (Ent.env ⟨Z, Z, Z, trivial⟩) ?_ (fun i hi => ?_)))))))))
 trivial
 refine af (ac (j2 O Z Z (bo O Z (js O Z (jn (ab O Z Z (fun hc9 => ?_) (fun hc9 => ?_)))))))
 try simp only [aN] at hc9
 exact absurd hc9 (by simp)
 try simp only [aN] at hc9
 refine aQ (ac (j2 O Z Z (jr ?_)))
 refine ⟨.inl Z, _, ak, _, Z, ?_⟩
 first | rfl | skip
theorem zZ (hk0 : 0 ≤ k) (hk1 : k + bC nT ts ≤ 1073741824) : MQ h1 h2 55 [.c (.rs 0 0 ts.length), eI k] [(0, fO ts)] (bb (eI (k + bC nT ts)) [(0, fO (bq mT nT k ts))]) := by
 refine jH 27 [0] h1 h2 Tryz.func55 Z Z Z Z fun O hF => ?_
 refine fG 0 Z (fun hB => ?_)
 have hl : ts.length ≤ L := by simpa [B.fact] using hB.1
 refine ac (js O Z (jn (af (ac (js O Z (jn (am (ap (X := Nat) (fun i => ⟨[(0, .c (.rs 0 0 ts.length)), (1, eI (k + bC nT (ts.take i))), (5, eI i)], [(0, fO (mk mT nT k i ts))]⟩) (fun i => i ≤ ts.length) (fun i => ts.length - i) 0 (Ent.to ⟨Z, by simp [bT, aB, bC], Z, trivial⟩ (by simp [i8])) ?_ (fun i hi => ?_)))))))))
 exact cm _
 refine af (ac (j2 O Z Z (aU O Z Z (js O Z (jn (ab O Z Z (fun hc9 => ?_) (fun hc9 => ?_)))))))
 try simp only [aN] at hc9
 refine ah (af (am (ac (j3 O Z Z Z (aU O Z Z (js O Z ?_))))))
 have hcs := gy (sz := nT) (show i < ts.length by omega)
 have hcl := ll (sz := nT) (l := ts) (i := i + 1)
 have hg := jY (f := mT) (sz := nT) (k := k) (show i < ts.length by omega)
 have hs := gQ (f := mT) (sz := nT) (k := k) (show i < ts.length by omega)
 rw [← ar (show i < ts.length by omega)] at hcs hg hs
 obtain ⟨t, ht⟩ : ∃ t, t = ts.getD i default := ⟨_, rfl⟩
 rw [← ht] at hcs hg hs
 simp only [nT] at hcs
 have hgl : i < (mk mT nT k i ts).length := by rw [fz]; omega
 refine AOps.heap (bd (ex := Tm.cells t) (xs' := ((mk mT nT k i ts).set i ⟨k + bC nT (ts.take i), t.xs⟩).map Tm.cells) O Z Z Z Z Z Z Z Z Z Z Z Z Z Z (by simp [hg]) (by rw [List.map_set]; simp)) Z (aP (js O Z (ji O Z (js O Z (jn (aj (j2 O Z Z (aU O Z Z (js O Z (AOps.step (av O (ex := Tm.cells ⟨k + bC nT (ts.take i), t.xs⟩) Z Z Z Z (by simp [hgl]) Z) Z Z Z (js O Z (iX O (l := 0) (j := 1) (z := 1) (ex := Tm.cells ⟨k + bC nT (ts.take i), t.xs⟩) (ys := (t.xs).map (fun n => [D.int .i64 n])) (ys' := (bq mI dm (k + bC nT (ts.take i) + 1) t.xs).map (fun n => [D.int .i64 n])) (xs' := (mk mT nT k (i + 1) ts).map Tm.cells) Z Z Z Z (.rp (.d Z .nil)) (.rp (.d Z .nil)) Z (by simp [hgl]) Z (z3 (xs := t.xs) (k := (k + bC nT (ts.take i) + 1)) h1 h2 (by omega) (by omega)).1 (fun _ => by rw [bt]; exact z3 (xs := t.xs) h1 h2 (by omega) (by omega)) (fun hys => ?_) Z (by simp [bv]) Z Z Z Z (by rw [← hs]; simp [List.map_set]) ?_))))))))))))
 have hy : t.xs = [] := by simpa using hys
 rw [hy]
 exact (yk h1 h2 (k := (k + bC nT (ts.take i) + 1))).plain (by simp [bC, hy])
 refine js O Z (jn (aj (js O Z (ji O Z (js O Z (jn ?_))))))
 refine ⟨i + 1, Ent.to ⟨Z, ?_, Z, trivial⟩ Z, by omega, by omega⟩
 rw [hcs]
 exact congrArg (fun z => some (eI z)) (by omega)
 try simp only [aN] at hc9
 refine aQ (ac (j2 O Z Z (jr ?_)))
 refine ⟨.inl Z, _, ak, _, Z, ?_⟩
 obtain rfl : i = ts.length := by omega
 rw [li (bw _), List.take_length]
 exact ⟨Z, Z⟩
end Go.Al
