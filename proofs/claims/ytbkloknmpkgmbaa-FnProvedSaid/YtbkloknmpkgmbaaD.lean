/- Contracts of the functions that copy, compare, mark and measure. -/
import Derived.Test.YtbkloknmpkgmbaaProg
import Derived.Test.YtbkloknmpkgmbaaC
set_option linter.unusedVariables false
set_option linter.unusedSimpArgs false
set_option maxRecDepth 10000
open Go.Proofs
/- The table of the types that the functions of this seat use, and its proof. -/
namespace Go.Al
variable {L : Nat} (h1 : 4096 ≤ L) (h2 : L ≤ 1073741824)
def tt : List (Nat × TI) := [
  (2, ⟨4, false, 0, 1, 8, [.int .i64 0], []⟩),
  (3, ⟨4, false, 0, 1, 8, [.int .i64 0], []⟩),
  (4, ⟨5, false, 0, 1, 1, [.bool false], []⟩),
  (5, ⟨4, false, 0, 1, 1, [.int .u8 0], []⟩),
  (22, ⟨1, false, 5, 1, 24, [.nils], []⟩),
  (24, ⟨1, false, 27, 1, 24, [.nils], []⟩),
  (25, ⟨1, false, 2, 1, 24, [.nils], []⟩),
  (27, ⟨3, true, 0, 2, 32, [.int .i64 0, .nils], [(0, 1), (1, 1)]⟩),
  (29, ⟨3, true, 0, 3, 56, [.nils, .int .i64 0, .nils], [(0, 1), (1, 2)]⟩),
  (31, ⟨1, false, 87, 1, 24, [.nils], []⟩),
  (37, ⟨1, false, 29, 1, 24, [.nils], []⟩),
  (38, ⟨1, false, 31, 1, 24, [.nils], []⟩),
  (57, ⟨3, true, 0, 3, 40, [.int .i64 0, .nils, .bool false], [(0, 1), (1, 1), (2, 1)]⟩),
  (66, ⟨8, false, 0, 1, 8, [.nilm], []⟩),
  (68, ⟨3, true, 0, 3, 40, [.nils, .nilm, .int .i64 0], [(0, 1), (1, 1), (2, 1)]⟩),
  (69, ⟨1, false, 4, 1, 24, [.nils], []⟩),
  (72, ⟨4, false, 0, 1, 8, [.int .u64 0], []⟩),
  (74, ⟨3, true, 0, 3, 40, [.nils, .int .i64 0, .int .u64 0], [(0, 1), (1, 1), (2, 1)]⟩),
  (87, ⟨3, true, 0, 5, 72, [.int .i64 0, .int .i64 0, .int .i64 0, .nils, .nils], [(0, 1), (1, 1), (2, 2), (4, 1)]⟩),
  (91, ⟨3, true, 0, 3, 56, [.int .i64 0, .nils, .nils], [(0, 2), (2, 1)]⟩),
  (112, ⟨1, false, 91, 1, 24, [.nils], []⟩),
  (115, ⟨1, false, 3, 1, 24, [.nils], []⟩),
  (118, ⟨1, false, 122, 1, 24, [.nils], []⟩),
  (122, ⟨3, true, 0, 3, 56, [.int .i64 0, .nils, .nils], [(0, 1), (1, 1), (2, 1)]⟩)
]
theorem tt2 : TIok Try.prog 2 ⟨4, false, 0, 1, 8, [.int .i64 0], []⟩ := ⟨by kernel_rfl, by kernel_rfl, by kernel_rfl, by kernel_rfl, by kernel_rfl, by kernel_rfl, by kernel_rfl⟩
theorem tt3 : TIok Try.prog 3 ⟨4, false, 0, 1, 8, [.int .i64 0], []⟩ := ⟨by kernel_rfl, by kernel_rfl, by kernel_rfl, by kernel_rfl, by kernel_rfl, by kernel_rfl, by kernel_rfl⟩
theorem tt4 : TIok Try.prog 4 ⟨5, false, 0, 1, 1, [.bool false], []⟩ := ⟨by kernel_rfl, by kernel_rfl, by kernel_rfl, by kernel_rfl, by kernel_rfl, by kernel_rfl, by kernel_rfl⟩
theorem tt5 : TIok Try.prog 5 ⟨4, false, 0, 1, 1, [.int .u8 0], []⟩ := ⟨by kernel_rfl, by kernel_rfl, by kernel_rfl, by kernel_rfl, by kernel_rfl, by kernel_rfl, by kernel_rfl⟩
theorem xV : TIok Try.prog 22 ⟨1, false, 5, 1, 24, [.nils], []⟩ := ⟨by kernel_rfl, by kernel_rfl, by kernel_rfl, by kernel_rfl, by kernel_rfl, by kernel_rfl, by kernel_rfl⟩
theorem xU : TIok Try.prog 24 ⟨1, false, 27, 1, 24, [.nils], []⟩ := ⟨by kernel_rfl, by kernel_rfl, by kernel_rfl, by kernel_rfl, by kernel_rfl, by kernel_rfl, by kernel_rfl⟩
theorem xT : TIok Try.prog 25 ⟨1, false, 2, 1, 24, [.nils], []⟩ := ⟨by kernel_rfl, by kernel_rfl, by kernel_rfl, by kernel_rfl, by kernel_rfl, by kernel_rfl, by kernel_rfl⟩
theorem xS : TIok Try.prog 27 ⟨3, true, 0, 2, 32, [.int .i64 0, .nils], [(0, 1), (1, 1)]⟩ := ⟨by kernel_rfl, by kernel_rfl, by kernel_rfl, by kernel_rfl, by kernel_rfl, by kernel_rfl, by kernel_rfl⟩
theorem xR : TIok Try.prog 29 ⟨3, true, 0, 3, 56, [.nils, .int .i64 0, .nils], [(0, 1), (1, 2)]⟩ := ⟨by kernel_rfl, by kernel_rfl, by kernel_rfl, by kernel_rfl, by kernel_rfl, by kernel_rfl, by kernel_rfl⟩
theorem xQ : TIok Try.prog 31 ⟨1, false, 87, 1, 24, [.nils], []⟩ := ⟨by kernel_rfl, by kernel_rfl, by kernel_rfl, by kernel_rfl, by kernel_rfl, by kernel_rfl, by kernel_rfl⟩
theorem xP : TIok Try.prog 37 ⟨1, false, 29, 1, 24, [.nils], []⟩ := ⟨by kernel_rfl, by kernel_rfl, by kernel_rfl, by kernel_rfl, by kernel_rfl, by kernel_rfl, by kernel_rfl⟩
theorem xO : TIok Try.prog 38 ⟨1, false, 31, 1, 24, [.nils], []⟩ := ⟨by kernel_rfl, by kernel_rfl, by kernel_rfl, by kernel_rfl, by kernel_rfl, by kernel_rfl, by kernel_rfl⟩
theorem xN : TIok Try.prog 57 ⟨3, true, 0, 3, 40, [.int .i64 0, .nils, .bool false], [(0, 1), (1, 1), (2, 1)]⟩ := ⟨by kernel_rfl, by kernel_rfl, by kernel_rfl, by kernel_rfl, by kernel_rfl, by kernel_rfl, by kernel_rfl⟩
theorem xM : TIok Try.prog 66 ⟨8, false, 0, 1, 8, [.nilm], []⟩ := ⟨by kernel_rfl, by kernel_rfl, by kernel_rfl, by kernel_rfl, by kernel_rfl, by kernel_rfl, by kernel_rfl⟩
theorem xL : TIok Try.prog 68 ⟨3, true, 0, 3, 40, [.nils, .nilm, .int .i64 0], [(0, 1), (1, 1), (2, 1)]⟩ := ⟨by kernel_rfl, by kernel_rfl, by kernel_rfl, by kernel_rfl, by kernel_rfl, by kernel_rfl, by kernel_rfl⟩
theorem xK : TIok Try.prog 69 ⟨1, false, 4, 1, 24, [.nils], []⟩ := ⟨by kernel_rfl, by kernel_rfl, by kernel_rfl, by kernel_rfl, by kernel_rfl, by kernel_rfl, by kernel_rfl⟩
theorem xJ : TIok Try.prog 72 ⟨4, false, 0, 1, 8, [.int .u64 0], []⟩ := ⟨by kernel_rfl, by kernel_rfl, by kernel_rfl, by kernel_rfl, by kernel_rfl, by kernel_rfl, by kernel_rfl⟩
theorem xI : TIok Try.prog 74 ⟨3, true, 0, 3, 40, [.nils, .int .i64 0, .int .u64 0], [(0, 1), (1, 1), (2, 1)]⟩ := ⟨by kernel_rfl, by kernel_rfl, by kernel_rfl, by kernel_rfl, by kernel_rfl, by kernel_rfl, by kernel_rfl⟩
theorem xG : TIok Try.prog 87 ⟨3, true, 0, 5, 72, [.int .i64 0, .int .i64 0, .int .i64 0, .nils, .nils], [(0, 1), (1, 1), (2, 2), (4, 1)]⟩ := ⟨by kernel_rfl, by kernel_rfl, by kernel_rfl, by kernel_rfl, by kernel_rfl, by kernel_rfl, by kernel_rfl⟩
theorem xF : TIok Try.prog 91 ⟨3, true, 0, 3, 56, [.int .i64 0, .nils, .nils], [(0, 2), (2, 1)]⟩ := ⟨by kernel_rfl, by kernel_rfl, by kernel_rfl, by kernel_rfl, by kernel_rfl, by kernel_rfl, by kernel_rfl⟩
theorem ww : TIok Try.prog 112 ⟨1, false, 91, 1, 24, [.nils], []⟩ := ⟨by kernel_rfl, by kernel_rfl, by kernel_rfl, by kernel_rfl, by kernel_rfl, by kernel_rfl, by kernel_rfl⟩
theorem wv : TIok Try.prog 115 ⟨1, false, 3, 1, 24, [.nils], []⟩ := ⟨by kernel_rfl, by kernel_rfl, by kernel_rfl, by kernel_rfl, by kernel_rfl, by kernel_rfl, by kernel_rfl⟩
theorem wu : TIok Try.prog 118 ⟨1, false, 122, 1, 24, [.nils], []⟩ := ⟨by kernel_rfl, by kernel_rfl, by kernel_rfl, by kernel_rfl, by kernel_rfl, by kernel_rfl, by kernel_rfl⟩
theorem wt : TIok Try.prog 122 ⟨3, true, 0, 3, 56, [.int .i64 0, .nils, .nils], [(0, 1), (1, 1), (2, 1)]⟩ := ⟨by kernel_rfl, by kernel_rfl, by kernel_rfl, by kernel_rfl, by kernel_rfl, by kernel_rfl, by kernel_rfl⟩
theorem wr : TTok Try.prog tt := ⟨tt2, tt3, tt4, tt5, xV, xU, xT, xS, xR, xQ, xP, xO, xN, xM, xL, xK, xJ, xI, xG, xF, ww, wv, wu, wt, trivial⟩
theorem sb : TTplain tt = true := by kernel_rfl
theorem uP : Try.prog.follows .mixedOrders = true := by kernel_rfl
theorem ag {σ : Sg} {Q : Exit → St → Prop} {s : St} {id : Nat} {l : List Oper} {y : Code} (h : AOps σ l.toArray (j8 (AWP σ y Q) Q) l s) : AWP σ (.seq (.region id l.toArray false) y) Q s := AWP.seq (AWP.region h)
theorem jn {σ : Sg} {Q : Exit → St → Prop} {s : St} {all : Array Oper} (h : Q .normal s) : AOps σ all Q [] s := AOps.nil h
theorem aP {σ : Sg} {Q : Exit → St → Prop} {s : St} {all : Array Oper} {id : Nat} {l : List Oper} {y : Code} (h : AOps σ l.toArray (j8 (AWP σ y Q) Q) l s) : AOps σ all (j8 (AWP σ (.seq (.region id l.toArray false) y) Q) Q) [] s := AOps.nil (AWP.seq (AWP.region h))
theorem ba : (∀ {α β : Type} {f : α → β} {l : List α}, (l.map f).length = l.length) ∧ (∀ {α : Type} [BEq α] [LawfulBEq α] {a b : α}, (a == b) = true ↔ a = b) ∧ (∀ {p : Prop} [Decidable p], (decide p = true) = p) ∧ (∀ {p : Prop} [Decidable p], (decide p = false) ↔ ¬ p) ∧ (∀ {b : Bool}, ((!b) = true) = (b = false)) ∧ (∀ {b : Bool}, ((!b) = false) = (b = true)) ∧ ((!true) = false) ∧ ((!false) = true) ∧ (∀ {a b : Int}, ¬ a < b ↔ b ≤ a) ∧ (∀ {a b : Int}, ¬ a ≤ b ↔ b < a) := by
 refine ⟨?_, ?_, ?_, ?_, ?_, ?_, ?_, ?_, ?_, ?_⟩ <;> intros <;> simp
theorem av {σ : Sg} {Q : bM} {all : Array Oper} {l : List Oper} {e : List (Nat × A)} {H H' : List (Nat × B)} (K : AOps σ all Q l ⟨e, H'⟩) (h : HN H H' := by repeat' (first | apply HN.cons rfl | exact HN.nil rfl | exact BN.row rfl | exact BN.map rfl | apply BN.box rfl | apply MN.cons rfl | exact MN.nil rfl | exact XN.d rfl | exact XN.rs rfl | exact qp)) : AOps σ all Q l ⟨e, H⟩ := rd h K
theorem dL {σ : Sg} {Q : Exit → St → Prop} {c : Code} {e : List (Nat × A)} {H H' : List (Nat × B)} (K : AWP σ c Q ⟨e, H'⟩) (h : HN H H' := by repeat' (first | apply HN.cons rfl | exact HN.nil rfl | exact BN.row rfl | exact BN.map rfl | apply BN.box rfl | apply MN.cons rfl | exact MN.nil rfl | exact XN.d rfl | exact XN.rs rfl | exact qp)) : AWP σ c Q ⟨e, H⟩ := sW h K
def vW (e : List (Nat × A)) : List Nat → Option (List (Nat × A))
  | [] => some []
  | k :: ks => match lk e k, vW e ks with
    | some v, some r => some ((k, v) :: r)
    | _, _ => none
theorem m9 {e : List (Nat × A)} : ∀ {ks : List Nat} {e' : List (Nat × A)}, vW e ks = some e' → envSub e e'
 | [], e', h => by cases h; trivial
 | k :: ks, e', h => by
  unfold vW at h
  split at h
  rename_i v r h1 h2
  cases h
  exact ⟨h1, m9 h2⟩
  cases h
theorem jf {σ : Sg} {Q : Exit → St → Prop} {all : Array Oper} {l : List Oper} {e e' : List (Nat × A)} {H : List (Nat × B)} (ks : List Nat) (h : vW e ks = some e') (K : AOps σ all Q l ⟨e', H⟩) : AOps σ all Q l ⟨e, H⟩ := ov e' (m9 h) K
theorem jw {σ : Sg} {Q : Exit → St → Prop} {c : Code} {e e' : List (Nat × A)} {H : List (Nat × B)} (ks : List Nat) (h : vW e ks = some e') (K : AWP σ c Q ⟨e', H⟩) : AWP σ c Q ⟨e, H⟩ := pu e' (m9 h) K


noncomputable abbrev SG (L nt : Nat) : Sg := ⟨Try.prog, tt, L, nt, []⟩
theorem th {L nt} (h1 : 4096 ≤ L) (h2 : L ≤ 9223372036854775807) : SgOk (SG L nt) := ⟨wr, sb, h1, h2, uP⟩
theorem jB {L f : Nat} {fn : Func} {c : Code} {args : List A} {Q : A → List (Nat × B) → Prop} (nt : Nat) (h1 : 4096 ≤ L) (h2 : L ≤ 1073741824) (hf : Try.prog.funcs[f]? = some fn) (hb : fn.body = some c) (hnt : fn.ntmps = nt) (ha : Nat.ble args.length nt = true) (h : SgOk (SG L nt) → As.fact L args → AWP (SG L nt) c (fun e s => (e = .ret ∨ e = .normal) ∧ ∃ s2, Ent (SG L nt) s s2 ∧ ∃ res, eH tt s2 fn.results.toList = some res ∧ Q res s2.H) ⟨cM 0 args, []⟩) (hn : (fn.name == "runtime.NumGoroutine") = false := by kernel_rfl) : MC Try.prog L f args [] Q := have hσ := th (nt := nt) h1 (Nat.le_trans h2 (by decide)); MC.body hσ hf hn hb hnt (Nat.le_of_ble_eq_true ha) (h hσ)
theorem jH {L f : Nat} {fn : Func} {c : Code} {args : List A} {Hin : List (Nat × B)} {Q : A → List (Nat × B) → Prop} (nt : Nat) (ks : List Nat) (h1 : 4096 ≤ L) (h2 : L ≤ 1073741824) (hf : Try.prog.funcs[f]? = some fn) (hb : fn.body = some c) (hnt : fn.ntmps = nt) (hi : ks = Hin.map (·.1)) (ha : Nat.ble args.length nt = true) (h : SgOk ⟨Try.prog, tt, L, nt, ks⟩ → As.fact L args → AWP ⟨Try.prog, tt, L, nt, ks⟩ c (fun e s => (e = .ret ∨ e = .normal) ∧ ∃ s2, Ent ⟨Try.prog, tt, L, nt, ks⟩ s s2 ∧ ∃ res, eH tt s2 fn.results.toList = some res ∧ Q res s2.H) ⟨cM 0 args, Hin⟩) (hn : (fn.name == "runtime.NumGoroutine") = false := by kernel_rfl) : MC Try.prog L f args Hin Q := have hσ := nl (js := ks) (th (nt := nt) h1 (Nat.le_trans h2 (by decide))); sU hσ hf hn hb hnt hi (Nat.le_of_ble_eq_true ha) (h hσ)
abbrev MQ {L : Nat} (h1 : 4096 ≤ L) (h2 : L ≤ 1073741824) (f : Nat) (ds : List A) (Hin : List (Nat × B)) (Q : A → List (Nat × B) → Prop) : Prop := MC Try.prog L f ds Hin Q
abbrev eI (n : Int) : A := .c (.d (.int .i64 n))
abbrev eB (b : Bool) : A := .c (.d (.bool b))
abbrev dk (xs : List Int) : D := .slc 1 (xs.map fun n => [.int .i64 n])
structure Tm where
  c : Int
  xs : List Int
  deriving Inhabited
abbrev Tm.cells (t : Tm) : List D := [.int .i64 t.c, dk t.xs]
abbrev ptr (cs : List D) : A := .c (.d (.ptr cs 0))
def num (x : Int) : Bool := decide (-1000000 ≤ x) && decide (x ≤ 1000000)
def Tm.ok (t : Tm) : Bool := !(bif (bif !num t.c then true else decide ((10 : Int) < t.xs.length)) then true else bif decide ((0 : Int) < t.xs.length) then decide (t.xs.getD ((t.xs.length : Int) - 1).toNat default = 0) else false) && t.xs.all num
theorem mV {α : Type} {p : α → Bool} {xs : List α} (h : ∀ j (hj : j < xs.length), p xs[j] = true) : xs.all p = true := by
 rw [List.all_eq_true]; intro x hx
 obtain ⟨j, hj, rfl⟩ := List.mem_iff_getElem.1 hx
 exact h j hj
theorem kO {α : Type} {p : α → Bool} {xs : List α} (j : Nat) (hj : j < xs.length) (h : p xs[j] = false) : xs.all p = false := by
 rw [List.all_eq_false]; exact ⟨xs[j], List.getElem_mem _, by simp [h]⟩
theorem ar {α : Type} [Inhabited α] {xs : List α} {j : Nat} (hj : j < xs.length) : xs.getD j default = xs[j] := by simp [hj]

theorem yz {x lo hi : Int} : MQ h1 h2 47 [eI x, eI lo, eI hi] [] (Plain (eB (decide (lo ≤ x) && decide (x ≤ hi)))) := by
 refine aw ?_ Z
 refine jB 15 h1 h2 Try.func47 Z Z Z fun O hF => ?_
 refine ag (js O Z (aP (j4 O Z Z Z Z (aB 3 Z Z Z (fun hx => AN.step hx Z Z Z (V O Z) Z Z ( AN.step hx Z Z Z (V O Z) Z Z ( AN.step hx Z Z Z (V O Z) Z Z ( AN.nil)))) Z Z (AOps.step (aA O Z Z Z Z Z) Z Z Z (js O Z (jr ?_)))))))
 refine ⟨.inl Z, _, ak, _, Z, ?_⟩
 rw [Bool.cond_false_right]
theorem ry {x : Int} : MQ h1 h2 57 [eI x] [] (Plain (eB (num x))) := by
 refine aw ?_ Z
 refine jB 5 h1 h2 Try.func57 Z Z Z fun O hF => ?_
 refine ag (js O Z (aP (js O Z (ao O Z Z Z Z (yz h1 h2) (aa Z) Z Z Z Z Z (B0 := 5000) Z (js O Z (jr ?_))))))
 refine ⟨.inl Z, _, ak, _, Z, ?_⟩
 first | rfl | skip
theorem uN {t : Tm} : MQ h1 h2 31 [ptr t.cells] [] (Plain (eB t.ok)) := by
 refine aw ?_ Z
 refine jB 49 h1 h2 Try.func31 Z Z Z fun O hF => ?_
 have hl : t.xs.length ≤ L := by simpa [As.fact, A.fact, M.fact, D.fact, Ds.fact] using hF.1.2.1.1
 refine ag (js O Z (aP (j4 O Z Z Z Z (cj O Z (js O Z (jn (ac (ag (j4 O Z Z Z Z (ao O Z Z Z Z (ry h1 h2) (aa Z) Z Z Z Z Z (B0 := 15000) Z (j2 O Z Z (aB 2 Z Z Z (fun hx => AN.step hx Z Z Z (V O Z) Z Z ( AN.step hx Z Z Z (V O Z) Z Z ( AN.nil))) Z Z (AOps.step (ay O Z Z Z Z Z) Z Z Z (js O Z (aB 13 Z Z Z (fun hx => AN.step hx Z Z Z (V O Z) Z Z ( AN.step hx Z Z Z (V O Z) Z Z ( AN.step hx Z Z Z (V O Z) Z Z ( r9 9 Z Z Z Z (fun hx' => AN.step hx' Z Z Z (V O Z) Z Z ( AN.step hx' Z Z Z (V O Z) Z Z ( AN.step hx' Z Z Z (V O Z) Z Z ( AN.step hx' Z Z Z (V O Z) Z Z ( AN.step hx' Z Z Z (V O Z) Z Z ( AN.step hx' Z Z Z (vF O Z) Z Z ( AN.step hx' Z Z Z (vD O Z) Z Z ( AN.step hx' Z Z Z (V O Z) Z Z ( AN.step hx' Z Z Z (V O Z) Z Z ( AN.nil)))))))))) Z Z ( AN.step hx Z Z Z (aA O Z Z Z Z Z) Z Z ( AN.nil)))))) Z Z (AOps.step (ay O Z Z Z Z Z) Z Z Z (jn (ae O Z Z (fun hc34 => ?_) (fun hc34 => ?_)))))))))))))))))))
 try simp only [ba] at hc34
 refine ag (js O Z (jr ?_))
 refine ⟨.inl Z, _, ak, _, Z, ?_⟩
 simp only [Tm.ok, hc34, Bool.not_true, Bool.false_and]
 try simp only [ba] at hc34
 refine aj (ac (ag (js O Z (jn (ah (al (X := Nat) (fun i => ⟨[(0, ptr t.cells), (3, eI t.xs.length), (4, eI i)], []⟩) (fun i => i ≤ t.xs.length ∧ ∀ j (h : j < t.xs.length), j < i → num t.xs[j] = true) (fun i => t.xs.length - i) 0 (Ent.env ⟨Z, Z, Z, trivial⟩) ?_ (fun i hi => ?_)))))))
 exact ⟨b9 _, fun j h hj => absurd hj (Nat.not_lt_zero j)⟩
 refine ac (ag (j3 O Z Z Z (jn (ae O Z Z (fun hc37 => ?_) (fun hc37 => ?_)))))
 try simp only [ba] at hc37
 refine aj (ac (ah (ag (j4 O Z Z Z Z (js O Z (j6 O Z Z (js O Z (ao O Z Z Z Z (ry h1 h2) (aa Z) Z Z Z Z Z (B0 := 48000) Z (js O Z (jn (ae O Z Z (fun hc48 => ?_) (fun hc48 => ?_))))))))))))
 try simp only [ba] at hc48
 refine ag (js O Z (jr ?_))
 refine ⟨.inl Z, _, ak, _, Z, ?_⟩
 rw [Int.toNat_natCast, ar (by omega)] at hc48
 simp only [Tm.ok, kO i (by omega) hc48, Bool.and_false]
 try simp only [ba] at hc48
 refine aj (af (js O Z (ji O Z (js O Z (jn ?_)))))
 refine ⟨i + 1, Ent.env ⟨Z, Z, Z, trivial⟩, ⟨by omega, fun j h hj => ?_⟩, by omega⟩
 by_cases e : j = i
 subst e; rw [Int.toNat_natCast, ar h] at hc48; exact hc48
 exact hi.2 j h (by omega)
 try simp only [ba] at hc37
 refine aD (ag (js O Z (jr ?_)))
 refine ⟨.inl Z, _, ak, _, Z, ?_⟩
 simp only [Tm.ok, hc34, Bool.not_false, Bool.true_and]
 rw [mV (fun j hj => hi.2 j hj (by omega))]
abbrev bW (xs : List Int) : B := .row true 1 (xs.map fun n => [.int .i64 n])
abbrev aQ (xs : List Int) : A := .c (.d (dk xs))
variable {xs : List Int}
theorem wi : MQ h1 h2 30 [aQ xs] [] (Rows (.c (.rs 0 0 xs.length)) [bW xs]) := by
 refine cy (jB 6 h1 h2 Try.func30 Z Z Z fun O hF => ?_)
 have hl : xs.length ≤ L := by simpa [As.fact, A.fact, M.fact, D.fact, Ds.fact] using hF.1.1
 refine ?_
 refine ag (js O Z (aP (AOps.heap (bq O Z Z Z) Z (js O Z (AOps.heap (aI (own := true) O Z Z Z Z Z Z Z Z Z Z Z Z Z Z Z Z (.row Z Z) (.slc (.inr (Scal.map (fun _ => rfl)))) (by simp) Z (by first | omega | (dsimp only [bp, dp, List.length_nil]; omega) | (simp only [ba] at *; omega) | (simp; omega)) (by first | omega | (dsimp only [bp, dp, List.length_nil]; omega) | (simp only [ba] at *; omega) | (simp; omega)) Z Z) Z (js O Z (jr ?_)))))))
 refine ⟨.inl Z, _, ak, _, Z, [5], by decide, Z, ?_, ?_⟩
 simp [A.lab, M.lab]
 rfl
theorem tb : MQ h1 h2 44 [aQ xs] [] (Rows (.c (.rs 0 0 xs.length)) [bW xs]) := by
 refine cy (jB 6 h1 h2 Try.func44 Z Z Z fun O hF => ?_)
 have hl : xs.length ≤ L := by simpa [As.fact, A.fact, M.fact, D.fact, Ds.fact] using hF.1.1
 refine ?_
 refine ag (js O Z (aP (AOps.heap (bq O Z Z Z) Z (js O Z (AOps.heap (aI (own := true) O Z Z Z Z Z Z Z Z Z Z Z Z Z Z Z Z (.row Z Z) (.slc (.inr (Scal.map (fun _ => rfl)))) (by simp) Z (by first | omega | (dsimp only [bp, dp, List.length_nil]; omega) | (simp only [ba] at *; omega) | (simp; omega)) (by first | omega | (dsimp only [bp, dp, List.length_nil]; omega) | (simp only [ba] at *; omega) | (simp; omega)) Z Z) Z (js O Z (jr ?_)))))))
 refine ⟨.inl Z, _, ak, _, Z, [5], by decide, Z, ?_, ?_⟩
 simp [A.lab, M.lab]
 rfl

deriving instance DecidableEq for Tm
abbrev ri (ts : List Tm) : D := .slc 2 (ts.map Tm.cells)
abbrev bo (ts : List Tm) : A := .c (.d (ri ts))

structure Sm where
  kind : Int
  var : Int
  event : Int
  sum : Tm
  index : Tm
  facts : List Tm
  deriving Inhabited, DecidableEq
structure Pm where
  pre : List Tm
  body : List Sm
  post : List Tm
  deriving Inhabited, DecidableEq
structure Sx where
  vars : List Int
  cells : List Int
  deriving Inhabited, DecidableEq
def xz {α : Type} (sz : α → Nat) (l : List α) : Nat := (l.map sz).sum
section
variable {α : Type} {f : Int → α → α} {sz : α → Nat}
end

end Go.Al
