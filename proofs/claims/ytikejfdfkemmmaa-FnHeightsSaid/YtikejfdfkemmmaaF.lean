/- Annotated code: its functions and what is reached. -/
import Derived.Test.YtikejfdfkemmmaaH
import Derived.Test.YtikejfdfkemmmaaC
set_option linter.unusedVariables false
set_option linter.unusedSimpArgs false
set_option maxRecDepth 10000
set_option maxHeartbeats 4000000
open Go.Proofs
namespace Go.Al
variable {L : Nat} (h1 : 4096 ≤ L) (h2 : L ≤ 1073741824)
structure In where
  op : Int
  a : Int
  deriving Inhabited, DecidableEq
abbrev In.cells (x : In) : List D := [.int .i64 x.op, .int .i64 x.a]
abbrev qO (c : List In) : D := .slc 2 (c.map In.cells)
abbrev bf (c : List In) : A := .c (.d (qO c))
abbrev jF (c : List In) : B := .row true 2 (c.map In.cells)
structure Pt where
  k : Int
  fs : List Tm
  deriving Inhabited, DecidableEq
structure An where
  pre : List Tm
  post : List Tm
  code : List In
  pts : List Pt
  deriving Inhabited, DecidableEq
def av (x : In) : Bool :=
  if x.op = 0 ∨ x.op = 4 then gc x.a else if x.op = 1 ∨ x.op = 2 then bW 0 3 x.a else if x.op = 5 ∨ x.op = 6 then bW 0 79 x.a else if x.op = 9 then bW 0 3 x.a
  else if x.op = 3 ∨ x.op = 7 ∨ x.op = 8 ∨ x.op = 10 ∨ x.op = 11 then decide (x.a = 0) else false
def br (c : List In) : Bool := c.all av && bW 1 80 c.length
def c8 (x : In) : Bool := decide (x.op = 5) || decide (x.op = 6)
def qM (ps : List Pt) (k : Int) : Bool := ps.any fun p => decide (p.k = k)
def pD (c : List In) (k : Int) : Bool := c.any fun x => c8 x && decide (x.a = k)
def plB (c : List In) (ps : List Pt) (k : Int) : Bool := pD c k || qM ps k
def oM (pl : Int → Bool) : Nat → List In → List In
  | _, [] => []
  | k, x :: r => if pl (k : Int) = true then [] else x :: oM pl (k + 1) r
def sgt (c : List In) (ps : List Pt) (k : Nat) : List In := match c.drop k with
  | [] => []
  | x :: r => x :: oM (plB c ps) (k + 1) r
def iQ : List Int → List In → Bool
  | [], _ => true
  | _ :: _, [] => false
  | o :: os, x :: s => decide (x.op = o) && iQ os s
def mb (x : In) : Bool := decide (x.op = 1) || decide (x.op = 3) || decide (x.op = 7)
def pz (s : List In) : Nat × List In :=
  let x := s.getD 0 default
  let y := s.getD 1 default
  if iQ [0,4] s = true ∧ gc (x.a * y.a) = true then (2, [⟨0, x.a * y.a⟩])
  else if iQ [0,0,3] s = true ∧ gc (x.a + y.a) = true then (3, [⟨0, x.a + y.a⟩])
  else if iQ [0,1,3] s = true ∧ x.a = 0 then (3, [y])
  else if iQ [0,1,4,3] s = true ∧ x.a = 0 then (4, [y, s.getD 2 default])
  else if (mb x = true ∨ x.op = 4) ∧ iQ [x.op, 0, 3] s = true ∧ y.a = 0 then (3, [x])
  else if mb x = true ∧ iQ [x.op, 4] s = true ∧ y.a = 1 then (2, [x])
  else if iQ [4,4] s = true ∧ gc (x.a * y.a) = true then (2, [⟨4, x.a * y.a⟩])
  else (0, [])
def qI (k less : Int) (x : In) : In := if c8 x = true ∧ k < x.a then ⟨x.op, x.a - less⟩ else x
def sPt (k less : Int) (p : Pt) : Pt := if k < p.k then ⟨p.k - less, p.fs⟩ else p
def qG (a : An) (k n : Nat) (by' : List In) : An :=
  ⟨a.pre, a.post, (a.code.take k ++ by' ++ a.code.drop (k + n)).map (qI k ((n : Int) - by'.length)), a.pts.map (sPt k ((n : Int) - by'.length))⟩
abbrev kv (a : An) (k : Nat) : Nat × List In := pz (sgt a.code a.pts k)
def nm (a : An) : Nat → Nat → Option An
  | 0, _ => none
  | f + 1, k => if 0 < (kv a k).1 then some (qG a k (kv a k).1 (kv a k).2) else nm a f (k + 1)
def pG (a : An) : Option An := nm a a.code.length 0
def ny : Nat → An → An
  | 0, a => a
  | f + 1, a => match pG a with
    | none => a
    | some b => ny f b
def kC (a : An) : An := ny a.code.length a
structure AOk (a : An) : Prop where
  code : ∀ x ∈ a.code, av x = true
  pts : ∀ p ∈ a.pts, 0 ≤ p.k ∧ p.k ≤ 79
  len : a.code.length ≤ 80
  np : a.pts.length ≤ 8
  npre : a.pre.length ≤ 6
  npost : a.post.length ≤ 6
structure RuOk (s : List In) (r : Nat × List In) : Prop where
  n : r.1 ≤ s.length
  lt : r.2.length < r.1
  one : 1 ≤ r.2.length
  two : r.2.length ≤ 2
  jmp : ∀ x ∈ r.2, c8 x = false
  ok : (∀ x ∈ s, av x = true) → ∀ x ∈ r.2, av x = true
theorem oQ {a : Bool} (h : (!a) = true) : a = false := by simpa using h
theorem nN {a : Bool} (h : (!a) = false) : a = true := by simpa using h
theorem qY {a b : Bool} (h : (bif a then true else b) = false) : a = false ∧ b = false := by cases a <;> cases b <;> simp_all
theorem ng {α : Type} {p : α → Bool} {xs : List α} (j : Nat) (hj : j < xs.length) (h : p xs[j] = true) : xs.any p = true := List.any_eq_true.2 ⟨xs[j], List.getElem_mem _, h⟩
theorem oC {α : Type} {p : α → Bool} {xs : List α} (h : ∀ j (hj : j < xs.length), p xs[j] = false) : xs.any p = false := List.any_eq_false.2 fun x hx => by
 obtain ⟨j, hj, rfl⟩ := List.mem_iff_getElem.1 hx
 rw [h j hj]; decide
section
set_option linter.unusedSectionVars false
variable {α : Type} [Inhabited α] {f : α → α} {l : List α} {i : Nat} {g : α → List D}
end
structure Fo (a out : An) (k : Nat) : Prop where
  le : k ≤ out.code.length
  eq : kC out = kC a
  ok : AOk out
  no : ∀ j, j < k → (kv out j).1 = 0
structure Gn (a out : An) : Prop where
  eq : kC out = kC a
  ok : AOk out
variable {x : Int}
theorem oV : MQ h1 h2 45 [eI x] [] (Plain (eB (bW 0 79 x))) := by
 refine aI ?_ Z
 refine jB 5 h1 h2 Try.func45 Z Z Z fun O hF => ?_
 refine ac (js O Z (aW (js O Z (af O Z Z Z Z (eK h1 h2) (ab Z) Z Z Z Z Z (B0 := 5000) Z (js O Z (jr ?_))))))
 refine ⟨.inl Z, _, ap, _, Z, ?_⟩
 first | rfl | skip
theorem qU {x : In} : MQ h1 h2 34 [.agg (x.cells.map .d)] [] (Plain (eB (av x))) := by
 refine aI ?_ Z
 refine jB 37 h1 h2 Try.func34 Z Z Z fun O hF => ?_
 refine ac (jx O Z (js O Z (jn (ak (ac (j2 O Z Z (jn (aq (ak (ac (j2 O Z Z (jn (aa O Z Z (fun hc5 => ?_) (fun hc5 => ?_))))))))))))))
 try simp only [bv] at hc5
 refine am (aa O Z Z (fun hc5 => ?_) (fun hc5 => ?_))
 try simp only [bv] at hc5
 refine ac (j2 O Z Z (jf [9,6,4,3,2,1,0] Z (af O Z Z Z Z (oX h1 h2) (ab Z) Z Z Z Z Z (B0 := 11000) Z (js O Z (jf [2,6,4,3,1,0] Z (jr ?_))))))
 refine ⟨.inl Z, _, ap, _, Z, ?_⟩
 unfold av bW; simp_all
 try simp only [bv] at hc5
 contradiction
 try simp only [bv] at hc5
 refine ae (j2 O Z Z (jn (aa O Z Z (fun hc5 => ?_) (fun hc5 => ?_))))
 try simp only [bv] at hc5
 refine ac (j2 O Z Z (jf [9,7,6,4,3,2,1,0] Z (af O Z Z Z Z (oX h1 h2) (ab Z) Z Z Z Z Z (B0 := 11000) Z (js O Z (jf [2,7,6,4,3,1,0] Z (jr ?_))))))
 refine ⟨.inl Z, _, ap, _, Z, ?_⟩
 unfold av bW; simp_all
 try simp only [bv] at hc5
 refine ak (ac (j2 O Z Z (jf [11,7,6,4,3,2,1,0] Z (jn (aa O Z Z (fun hc11 => ?_) (fun hc11 => ?_))))))
 try simp only [bv] at hc11
 refine am (aa O Z Z (fun hc11 => ?_) (fun hc11 => ?_))
 try simp only [bv] at hc11
 refine ac (j2 O Z Z (jf [15,7,6,4,3,2,1,0] Z (af O Z Z Z Z (oW h1 h2) (ab Z) Z Z Z Z Z (B0 := 17000) Z (js O Z (jf [2,7,6,4,3,1,0] Z (jr ?_))))))
 refine ⟨.inl Z, _, ap, _, Z, ?_⟩
 unfold av bW; simp_all
 try simp only [bv] at hc11
 contradiction
 try simp only [bv] at hc11
 refine ae (j2 O Z Z (jn (aa O Z Z (fun hc11 => ?_) (fun hc11 => ?_))))
 try simp only [bv] at hc11
 refine ac (j2 O Z Z (jf [15,13,7,6,4,3,2,1,0] Z (af O Z Z Z Z (oW h1 h2) (ab Z) Z Z Z Z Z (B0 := 17000) Z (js O Z (jf [2,13,7,6,4,3,1,0] Z (jr ?_))))))
 refine ⟨.inl Z, _, ap, _, Z, ?_⟩
 unfold av bW; simp_all
 try simp only [bv] at hc11
 refine ak (ac (j2 O Z Z (jf [17,13,7,6,4,3,2,1,0] Z (jn (aa O Z Z (fun hc17 => ?_) (fun hc17 => ?_))))))
 try simp only [bv] at hc17
 refine am (aa O Z Z (fun hc17 => ?_) (fun hc17 => ?_))
 try simp only [bv] at hc17
 refine ac (j2 O Z Z (jf [21,13,7,6,4,3,2,1,0] Z (af O Z Z Z Z (oV h1 h2) (ab Z) Z Z Z Z Z (B0 := 23000) Z (js O Z (jf [2,13,7,6,4,3,1,0] Z (jr ?_))))))
 refine ⟨.inl Z, _, ap, _, Z, ?_⟩
 unfold av bW; simp_all
 try simp only [bv] at hc17
 contradiction
 try simp only [bv] at hc17
 refine ae (j2 O Z Z (jn (aa O Z Z (fun hc17 => ?_) (fun hc17 => ?_))))
 try simp only [bv] at hc17
 refine ac (j2 O Z Z (jf [21,19,13,7,6,4,3,2,1,0] Z (af O Z Z Z Z (oV h1 h2) (ab Z) Z Z Z Z Z (B0 := 23000) Z (js O Z (jf [2,19,13,7,6,4,3,1,0] Z (jr ?_))))))
 refine ⟨.inl Z, _, ap, _, Z, ?_⟩
 unfold av bW; simp_all
 try simp only [bv] at hc17
 refine ac (j2 O Z Z (jf [23,19,13,7,6,4,3,2,1,0] Z (jn (aa O Z Z (fun hc23 => ?_) (fun hc23 => ?_)))))
 try simp only [bv] at hc23
 refine ac (j2 O Z Z (jf [26,19,13,7,6,4,3,2,1,0] Z (af O Z Z Z Z (qS h1 h2) (ab Z) Z Z Z Z Z (B0 := 28000) Z (js O Z (jf [2,19,13,7,6,4,3,1,0] Z (jr ?_))))))
 refine ⟨.inl Z, _, ap, _, Z, ?_⟩
 unfold av bW; simp_all
 try simp only [bv] at hc23
 refine ak (ac (j2 O Z Z (jf [28,19,13,7,6,4,3,2,1,0] Z (jn (aa O Z Z (fun hc28 => ?_) (fun hc28 => ?_))))))
 try simp only [bv] at hc28
 refine am (aa O Z Z (fun hc28 => ?_) (fun hc28 => ?_))
 try simp only [bv] at hc28
 refine ac (j4 O Z Z Z Z (jf [2,28,19,13,7,6,4,3,1,0] Z (jr ?_)))
 refine ⟨.inl Z, _, ap, _, Z, ?_⟩
 unfold av bW; simp_all
 try simp only [bv] at hc28
 contradiction
 try simp only [bv] at hc28
 refine ac (j2 O Z Z (jn (aa O Z Z (fun hc28 => ?_) (fun hc28 => ?_))))
 try simp only [bv] at hc28
 refine am (aa O Z Z (fun hc28 => ?_) (fun hc28 => ?_))
 try simp only [bv] at hc28
 refine ac (j4 O Z Z Z Z (jf [2,28,30,19,13,7,6,4,3,1,0] Z (jr ?_)))
 refine ⟨.inl Z, _, ap, _, Z, ?_⟩
 unfold av bW; simp_all
 try simp only [bv] at hc28
 contradiction
 try simp only [bv] at hc28
 refine ac (j2 O Z Z (jn (aa O Z Z (fun hc28 => ?_) (fun hc28 => ?_))))
 try simp only [bv] at hc28
 refine am (aa O Z Z (fun hc28 => ?_) (fun hc28 => ?_))
 try simp only [bv] at hc28
 refine ac (j4 O Z Z Z Z (jf [2,28,31,30,19,13,7,6,4,3,1,0] Z (jr ?_)))
 refine ⟨.inl Z, _, ap, _, Z, ?_⟩
 unfold av bW; simp_all
 try simp only [bv] at hc28
 contradiction
 try simp only [bv] at hc28
 refine ac (j2 O Z Z (jn (aa O Z Z (fun hc28 => ?_) (fun hc28 => ?_))))
 try simp only [bv] at hc28
 refine am (aa O Z Z (fun hc28 => ?_) (fun hc28 => ?_))
 try simp only [bv] at hc28
 refine ac (j4 O Z Z Z Z (jf [2,32,31,30,19,13,7,6,4,3,1,0] Z (jr ?_)))
 refine ⟨.inl Z, _, ap, _, Z, ?_⟩
 unfold av bW; simp_all
 try simp only [bv] at hc28
 contradiction
 try simp only [bv] at hc28
 refine ae (j2 O Z Z (jn (aa O Z Z (fun hc28 => ?_) (fun hc28 => ?_))))
 try simp only [bv] at hc28
 refine ac (j4 O Z Z Z Z (jf [2,33,32,31,30,19,13,7,6,4,3,1,0] Z (jr ?_)))
 refine ⟨.inl Z, _, ap, _, Z, ?_⟩
 unfold av bW; simp_all
 try simp only [bv] at hc28
 refine am (ac (js O Z (jr ?_)))
 refine ⟨.inl Z, _, ap, _, Z, ?_⟩
 unfold av bW; simp_all
theorem qV {x : In} : MQ h1 h2 33 [.agg (x.cells.map .d)] [] (Plain (eB (!av x))) := by
 refine aI ?_ Z
 refine jB 6 h1 h2 Try.func33 Z Z Z fun O hF => ?_
 refine ac (jx O Z (js O Z (aW (js O Z (jf [3,2,0] Z (af O Z Z Z Z (qU h1 h2) (ab Z) Z Z Z Z Z (B0 := 5000) Z (j2 O Z Z (jf [2,0] Z (jr ?_)))))))))
 refine ⟨.inl Z, _, ap, _, Z, ?_⟩
 first | rfl | skip
theorem nQ {x : In} : MQ h1 h2 23 [.agg (x.cells.map .d)] [] (Plain (eB (c8 x))) := by
 refine aI ?_ Z
 refine jB 11 h1 h2 Try.func23 Z Z Z fun O hF => ?_
 refine ac (jx O Z (js O Z (aW (j4 O Z Z Z Z (jf [6,2,1,0] Z (aU 3 Z Z Z (fun hx => AN.step hx Z Z Z (V O Z) Z Z ( AN.step hx Z Z Z (V O Z) Z Z ( AN.step hx Z Z Z (V O Z) Z Z ( AN.nil)))) Z Z ?_))))))
 first | refine AOps.step (aQ O Z Z Z Z Z) Z Z Z ?_ | refine AOps.step (Val.pickB O Z Z Z Z Z) Z Z Z ?_ | refine AOps.step (aB O Z Z Z Z Z) Z Z Z ?_
 refine js O Z (jf [2,0] Z (jr ?_))
 refine ⟨.inl Z, _, ap, _, Z, ?_⟩
 unfold c8; cases decide (x.op = 5) <;> rfl
def nK {α : Type} (p : α → Bool) (l : List α) : Int := if l.any p = true then (l.findIdx p : Nat) else -1
theorem nX {α : Type} {p : α → Bool} {l : List α} (h : ∀ j (hj : j < l.length), p l[j] = false) : nK p l = -1 := by rw [nK, if_neg (by rw [oC h]; decide)]
theorem nZ {α : Type} {p : α → Bool} {l : List α} {i : Nat} (hi : i < l.length) (h : ∀ j (hj : j < l.length), j < i → p l[j] = false) (hn : p l[i] = true) : nK p l = i := by
 rw [nK, if_pos (ng i hi hn)]
 exact congrArg Nat.cast ((List.findIdx_eq hi).2 ⟨hn, fun j hj => by simp [h j (by omega) hj]⟩)
theorem nY {α : Type} {p : α → Bool} {l : List α} : decide (nK p l ≥ 0) = l.any p := by
 unfold nK
 cases h : l.any p <;> simp
variable {c : List In}
theorem pI : MQ h1 h2 42 [bf c, .c (.fn 33 [])] [] (Plain (eI (nK (fun x : In => !av x) c))) := by
 refine aI ?_ Z
 refine jB 19 h1 h2 Try.func42 Z Z Z fun O hF => ?_
 have hl : c.length ≤ L := by simpa [As.fact, A.fact, M.fact, D.fact, Ds.fact] using hF.1.1
 refine ac (js O Z (jn (ak (ac (js O Z ?_)))))
 first | refine cw O Z ?_ | refine js O Z ?_ | refine bm O Z Z ?_
 refine js O Z (jn (aq (aG (X := Nat) (fun i => ⟨[(0, bf c), (1, .c (.fn 33 [])), (7, eI c.length), (8, eI i)], []⟩) (fun i => i ≤ c.length ∧ ∀ j (h : j < c.length), j < i → (fun x : In => !av x) c[j] = false) (fun i => c.length - i) 0 (Ent.env ⟨Z, Z, Z, Z, trivial⟩) ?_ (fun i hi => ?_))))
 exact ⟨ga _, fun j h hj => absurd hj (Nat.not_lt_zero j)⟩
 refine ac (js O Z (jn (ak (aa O Z Z (fun hc9 => ?_) (fun hc9 => ?_)))))
 refine am (ak (aq (ac ?_)))
 have hil : i < c.length := by have := ay hc9; omega
 refine j2 O Z Z (aW (j3 O Z Z Z ?_))
 first | refine lx O Z Z ?_ | refine lv O Z Z ?_ | refine bm O Z Z ?_
 refine js O Z (kr [(15, _), (11, _), (5, _), (10, _), (9, _), (0, _), (1, _), (7, _), (8, _)] [] ⟨Z, Z, Z, Z, Z, Z, Z, Z, Z, trivial⟩ Z (af O Z Z Z Z (qV (x := c.getD i default) h1 h2) (ab Z) Z Z Z Z Z (B0 := 17000) Z (jf [16,5,10,9,0,1,7,8] Z (jn (aa O Z Z (fun hc16 => ?_) (fun hc16 => ?_))))))
 refine ac (j2 O Z Z (jr ?_))
 refine ⟨.inl Z, _, ap, _, Z, ?_⟩
 rw [aM hil] at hc16
 rw [nZ hil hi.2 hc16]
 refine am (ae ?_)
 first | refine ji O Z ?_ | refine bm O Z Z ?_
 refine js O Z (jn ?_)
 refine ⟨i + 1, Ent.env ⟨Z, Z, Z, Z, trivial⟩, ⟨by omega, fun j h hj => ?_⟩, by omega⟩
 by_cases e : j = i
 subst e; rw [aM h] at hc16; exact hc16
 exact hi.2 j h (by omega)
 refine bF (ac (js O Z (jr ?_)))
 refine ⟨.inl Z, _, ap, _, Z, ?_⟩
 have h9 := bh hc9
 rw [nX (fun j hj => hi.2 j hj (by omega))]
theorem pU : MQ h1 h2 32 [bf c, .c (.fn 33 [])] [] (Plain (eB (c.any (fun x : In => !av x)))) := by
 refine aI ?_ Z
 refine jB 9 h1 h2 Try.func32 Z Z Z fun O hF => ?_
 refine ac (js O Z (aW (j2 O Z Z (af O Z Z Z Z (pI (c := c) h1 h2) (.cons (.c .d) (.cons (.c (.fn .nil)) .nil)) Z Z Z Z Z (B0 := 8000) Z (j2 O Z Z (jr ?_))))))
 refine ⟨.inl Z, _, ap, _, Z, ?_⟩
 exact congrArg eB nY
theorem lK : MQ h1 h2 17 [bf c] [] (Plain (eB (br c))) := by
 refine aI ?_ Z
 refine jB 12 h1 h2 Try.func17 Z Z Z fun O hF => ?_
 have hl : c.length ≤ L := by simpa [As.fact, A.fact, M.fact, D.fact, Ds.fact] using hF.1.1
 refine ac (js O Z (aW (js O Z ?_)))
 first | refine cw O Z ?_ | refine js O Z ?_ | refine bm O Z Z ?_
 refine af O Z Z Z Z (o0 h1 h2) (ab Z) Z Z Z Z Z (B0 := 6000) Z (af O Z Z Z Z (eK h1 h2) (ab Z) Z Z Z Z Z (B0 := 7000) Z (js O Z (aU 3 Z Z Z (fun hx => AN.step hx Z Z Z (V O Z) Z Z ( dy O hx Z Z Z Z (pU (c := c) h1 h2) (.cons (.c .d) (.cons (.c (.fn .nil)) .nil)) Z Z Z Z Z Z Z (B0 := 10000) Z ( AN.step hx Z Z Z (V O Z) Z Z ( AN.nil)))) Z Z ?_)))
 first | refine AOps.step (aB O Z Z Z Z Z) Z Z Z ?_ | refine AOps.step (aQ O Z Z Z Z Z) Z Z Z ?_ | refine AOps.step (Val.pickB O Z Z Z Z Z) Z Z Z ?_
 refine js O Z (jr ?_)
 refine ⟨.inl Z, _, ap, _, Z, ?_⟩
 rw [Bool.cond_false_right, show br c = _ from Bool.and_comm _ _, List.all_eq_not_any_not]
structure WkOk (a : An) (d : List Bool) : Prop where
  len : d.length = a.code.length
  c80 : a.code.length ≤ 80
  jmp : ∀ x ∈ a.code, -1000000 ≤ x.a ∧ x.a ≤ 1000000 ∧ (c8 x = true → 0 ≤ x.a)
  pts : ∀ p ∈ a.pts, 0 ≤ p.k ∧ p.k ≤ 79
def tg (x : In) (k : Int) : List Int :=
  if x.op = 11 then [] else if x.op = 5 then [x.a] else if x.op = 6 then (if x.a < k + 1 then [x.a, k + 1] else if x.a = k + 1 then [k + 1] else [k + 1, x.a]) else [k + 1]
theorem gg {x : In} {k : Int} : (tg x k).length ≤ 2 := by
 unfold tg; split
 simp
 split
 simp
 split
 split
 simp
 split <;> simp
 simp
inductive Rch (c : List In) (st : List Int) : Nat → Prop
  | start {z : Int} : z ∈ st → 0 ≤ z → z < c.length → Rch c st z.toNat
  | step {k : Nat} {z : Int} : Rch c st k → z ∈ tg (c.getD k default) k → 0 ≤ z → z < c.length → Rch c st z.toNat
open Classical in
noncomputable def bz (c : List In) (st : List Int) : List Bool := (List.range c.length).map fun k => decide (Rch c st k)
theorem ck {c : List In} {st : List Int} : (bz c st).length = c.length := by simp [bz]
theorem eP {c : List In} {st : List Int} {k : Nat} (h : k < c.length) : (bz c st).getD k default = true ↔ Rch c st k := by
 rw [aM (by rw [ck]; exact h)]
 simp [bz]
structure Rsh (c : List In) (st : List Int) (u : List Bool) (ws : List Int) : Prop where
  len : u.length = c.length
  nn : ∀ z ∈ ws, 0 ≤ z ∧ z ≤ 100
  sd : ∀ k, k < c.length → u.getD k default = true → Rch c st k
  sw : ∀ z ∈ ws, z < c.length → Rch c st z.toNat
  cl : ∀ k, k < c.length → u.getD k default = true → ∀ z ∈ tg (c.getD k default) k, 0 ≤ z → z < c.length → u.getD z.toNat default = true ∨ z ∈ ws
  cs : ∀ z ∈ st, 0 ≤ z → z < c.length → u.getD z.toNat default = true ∨ z ∈ ws
def eJ (u : List Bool) : Nat := u.count false
theorem Rsh.zero {c : List In} {st : List Int} (h : ∀ z ∈ st, 0 ≤ z ∧ z ≤ 100) : Rsh c st (List.replicate c.length false) st := by
 have hg : ∀ k, (List.replicate c.length false).getD k default = false := fun k => by
  rw [List.getD_eq_getElem?_getD, List.getElem?_replicate]; split <;> rfl
 refine ⟨List.length_replicate, h, fun k _ hk => (by rw [hg] at hk; cases hk), fun z hz hl => .start hz (h z hz).1 hl, fun k _ hk => (by rw [hg] at hk; cases hk), fun z hz _ _ => .inr hz⟩
theorem Rsh.out {c : List In} {st : List Int} {u : List Bool} {ws ws' : List Int} {z : Int} (h : Rsh c st u ws) (hm : ∀ y, y ∈ ws ↔ y = z ∨ y ∈ ws') (hz : z < c.length → u.getD z.toNat default = true) : Rsh c st u ws' := by
 refine ⟨h.len, fun y hy => h.nn y ((hm y).2 (.inr hy)), h.sd, fun y hy => h.sw y ((hm y).2 (.inr hy)), fun k hk hu y hy h0 hl => ?_, fun y hy h0 hl => ?_⟩
 rcases h.cl k hk hu y hy h0 hl with g | g
 exact .inl g
 rcases (hm y).1 g with rfl | g
 exact .inl (hz hl)
 exact .inr g
 rcases h.cs y hy h0 hl with g | g
 exact .inl g
 rcases (hm y).1 g with rfl | g
 exact .inl (hz hl)
 exact .inr g
theorem dp {u : List Bool} {j k : Nat} (hj : j < u.length) : (u.set j true).getD k default = true ↔ (k = j ∨ u.getD k default = true) := by
 rw [List.getD_eq_getElem?_getD, List.getD_eq_getElem?_getD, List.getElem?_set]
 by_cases h : j = k
 subst h; simp [hj]
 rw [if_neg h]
 constructor
 intro g; exact .inr g
 rintro (rfl | g)
 exact absurd Z h
 exact g
def m2 (c : List In) : Prop := c.length ≤ 80 ∧ ∀ x ∈ c, c8 x = true → 0 ≤ x.a ∧ x.a ≤ 79
theorem pm {c : List In} (hc : m2 c) {k : Nat} (hk : k < c.length) : ∀ z ∈ tg (c.getD k default) k, 0 ≤ z ∧ z ≤ 100 := by
 have hx := hc.2 (c.getD k default) (by rw [aM hk]; exact List.getElem_mem hk)
 have h80 := hc.1
 intro z hz
 unfold tg at hz
 split at hz
 cases hz
 split at hz
 rename_i h5
 have := hx (by unfold c8; rw [h5]; rfl)
 simp only [List.mem_singleton] at hz; omega
 split at hz
 rename_i h6
 have := hx (by unfold c8; rw [h6]; rfl)
 split at hz
 simp only [List.mem_cons, List.not_mem_nil, or_false] at hz; omega
 split at hz
 simp only [List.mem_singleton] at hz; omega
 simp only [List.mem_cons, List.not_mem_nil, or_false] at hz; omega
 simp only [List.mem_singleton] at hz; omega
theorem mL {c : List In} {st : List Int} {u : List Bool} {ws ws' : List Int} {z : Int} (hc : m2 c) (h : Rsh c st u ws) (hm : ∀ y, y ∈ ws ↔ y = z ∨ y ∈ ws') (h0 : 0 ≤ z) (hz : z < c.length) : Rsh c st (u.set z.toNat true) (ws' ++ tg (c.getD z.toNat default) z) := by
 have hzn : z.toNat < c.length := by omega
 have hzu : z.toNat < u.length := by rw [h.len]; exact hzn
 have hze : ((z.toNat : Nat) : Int) = z := by omega
 have hr : Rch c st z.toNat := h.sw z ((hm z).2 (.inl Z)) hz
 have ht := pm hc hzn
 rw [hze] at ht
 refine ⟨by rw [List.length_set]; exact h.len, fun y hy => ?_, fun k hk hu => ?_, fun y hy hl => ?_, fun k hk hu y hy g0 hl => ?_, fun y hy g0 hl => ?_⟩
 rcases List.mem_append.1 hy with hy | hy
 exact h.nn y ((hm y).2 (.inr hy))
 exact ht y hy
 rcases (dp hzu).1 hu with rfl | g
 exact hr
 exact h.sd k hk g
 rcases List.mem_append.1 hy with hy | hy
 exact h.sw y ((hm y).2 (.inr hy)) hl
 exact .step hr (by rw [hze]; exact hy) (ht y hy).1 hl
 rcases (dp hzu).1 hu with rfl | g
 rw [hze] at hy
 exact .inr (List.mem_append_right _ hy)
 rcases h.cl k hk g y hy g0 hl with g1 | g1
 exact .inl ((dp hzu).2 (.inr g1))
 rcases (hm y).1 g1 with rfl | g1
 exact .inl ((dp hzu).2 (.inl Z))
 exact .inr (List.mem_append_left _ g1)
 rcases h.cs y hy g0 hl with g1 | g1
 exact .inl ((dp hzu).2 (.inr g1))
 rcases (hm y).1 g1 with rfl | g1
 exact .inl ((dp hzu).2 (.inl Z))
 exact .inr (List.mem_append_left _ g1)
theorem Rsh.done {c : List In} {st : List Int} {u : List Bool} (h : Rsh c st u []) : u = bz c st := by
 have key : ∀ k, Rch c st k → u.getD k default = true := by
  intro k hk
  induction hk with
  | start hz h0 hl => exact (h.cs _ hz h0 hl).resolve_right (by simp)
  | step hk hz h0 hl ih =>
   rename_i k z
   have hkl : k < c.length := by
    rcases Nat.lt_or_ge k c.length with g | g
    exact g
    rw [List.getD_eq_getElem?_getD, List.getElem?_eq_none (by rw [h.len]; exact g)] at ih; cases ih
   exact (h.cl k hkl ih z hz h0 hl).resolve_right (by simp)
 refine List.ext_getElem (by rw [h.len, ck]) fun k h1 h2 => ?_
 rw [h.len] at h1
 have e1 := eP (st := st) h1
 have e2 := h.sd k h1
 have e3 := key k
 rw [aM (by rw [ck]; exact h1)] at e1
 rw [aM (by rw [h.len]; exact h1)] at e2 e3
 cases g : u[k] with
 | true => exact (e1.2 (e2 g)).symm
 | false =>
  cases g2 : (bz c st)[k] with
  | false => rfl
  | true => have := e3 (e1.1 g2); rw [g] at this; cases this
theorem mG {u : List Bool} {j : Nat} (hj : j < u.length) (h : u.getD j default = false) : eJ (u.set j true) + 1 = eJ u := by
 unfold eJ
 rw [aM hj] at h
 have hp : 0 < u.count false := List.count_pos_iff.2 (h ▸ List.getElem_mem hj)
 rw [List.count_set hj]
 simp [h]
 omega
theorem k8 {n : Nat} : eJ (List.replicate n false) = n := by simp [eJ]
structure DpOk (a : An) : Prop where
  c80 : a.code.length ≤ 80
  jmp : ∀ x ∈ a.code, -1000000 ≤ x.a ∧ x.a ≤ 1000000 ∧ (c8 x = true → 0 ≤ x.a)
  pts : ∀ p ∈ a.pts, 0 ≤ p.k ∧ p.k ≤ 79
theorem lw {α β : Type} [Inhabited α] {l : List α} {f : α → β} {n j : Nat} (h : n < l.length) (hj : j = n) : (l.map f)[j]? = some (f (l.getD n default)) := by subst hj; simp [h]
theorem nI {α β : Type} {l : List α} {f : α → β} {n j : Nat} {v : α} {ds : β} (hj : j = n) (hd : ds = f v) : (l.map f).set j ds = (l.set n v).map f := by subst hj; subst hd; rw [List.map_set]
theorem eC {σ : Sg} {o : Oper} {s : St} (hσ : SgOk σ) {t l off m sz : Nat} {x lo : Operand} {k : IntKind} {own : Bool} {xs : List (List D)} {i ti : TI} (ho : o.op = .slice t x (some lo) none none) (hs : Al.Oper.shorts o = true) (hx : ev s x = some (.c (.rs l off (m + 1)))) (hh : ev s lo = some (.c (.d (.int k 1)))) (hl : lk s.H l = some (.row own sz xs))
    (hi' : lk σ.tt t = some i) (hk : Nat.beq i.kind 1 = true) (ht : lk σ.tt i.elem = some ti) (hz : Nat.beq sz ti.size = true) : Val σ s o (.c (.rs l (off + 1) m)) := by
 refine dc hσ ?_ hs
 simp [dN, ho, opt, hx, hh, fB, hi', hk, ht, hz, nat?, hl]
theorem pY : MQ h1 h2 64 [.c (.d (.int .u64 2))] [] (Plain (eI 2)) := by
 refine aI ?_ Z
 refine jB 25 h1 h2 Try.func64 Z Z Z fun O hF => ?_
 refine ac (js O Z (jn (ak (ac (j2 O Z Z (jn (aa O Z Z (fun hc4 => ?_) (fun hc4 => ?_))))))))
 exact absurd hc4 (by decide)
 refine am (ak (ac (j2 O Z Z (jn (aa O Z Z (fun hc8 => ?_) (fun hc8 => ?_))))))
 exact absurd hc8 (by decide)
 refine am (ak (ac (j2 O Z Z (jn (aa O Z Z (fun hc14 => ?_) (fun hc14 => ?_))))))
 exact absurd hc14 (by decide)
 refine am (ac (j2 O Z Z (AOps.step ((Val.conv O (k' := .u8) (dt := .int .u64) (b := true) Z Z Z (by kernel_rfl) (by kernel_rfl)).cast (v' := .c (.d (.int .u8 2))) Z) Z Z Z (AOps.step (dc O (v := .c (.d (.int .u8 2))) (by kernel_rfl) (by kernel_rfl)) Z Z Z (AOps.step ((Val.conv O (k' := .i64) (dt := .int .u8) (b := true) Z Z Z (by kernel_rfl) (by kernel_rfl)).cast (v' := eI 2) Z) Z Z Z (AOps.step ((ag O Z Z (by decide) (by decide)).cast (v' := eI 2) Z) Z Z Z (js O Z (jr ?_))))))))
 refine ⟨.inl Z, _, ap, _, Z, ?_⟩
 rfl
theorem p9 : MQ h1 h2 48 [.c (.d (.int .u64 2))] [] (Plain (eI 2)) := by
 refine aI ?_ Z
 refine jB 8 h1 h2 Try.func48 Z Z Z fun O hF => ?_
 refine ac (js O Z (jn (ak (aa O Z Z (fun hc => ?_) (fun hc => ?_)))))
 cases hc
 refine am (ac (js O Z (af O Z Z Z Z (pY h1 h2) (ab Z) Z Z Z Z Z (B0 := 8000) Z (js O Z (jr ?_)))))
 refine ⟨.inl Z, _, ap, _, Z, ?_⟩
 rfl
theorem pX : MQ h1 h2 71 [eI x] [] (Plain (eB false)) := by
 refine aI ?_ Z
 refine jB 6 h1 h2 Try.func71 Z Z Z fun O hF => ?_
 refine ac (js O Z (aW (j4 O Z Z Z Z (jr ?_))))
 refine ⟨.inl Z, _, ap, _, Z, ?_⟩
 simp
theorem pZ {y : Int} : MQ h1 h2 60 [eI x, eI y] [] (Plain (eB (decide (x < y)))) := by
 refine aI ?_ Z
 refine jB 17 h1 h2 Try.func60 Z Z Z fun O hF => ?_
 refine ac (js O Z (aW (js O Z (af O Z Z Z Z (pX (x := x) h1 h2) (ab Z) Z Z Z Z Z (B0 := 7000) Z (js O Z (AOps.skip Z Z Z Z Z Z (AOps.skip Z Z Z Z Z Z (AOps.skip Z Z Z Z Z Z (AOps.step (ax O Z Z Z Z Z) Z Z Z (js O Z (aV Z (js O Z (aV Z (js O Z (aV Z (js O Z (AOps.step (ax O Z Z Z Z Z) Z Z Z (js O Z (jr ?_)))))))))))))))))))
 refine ⟨.inl Z, _, ap, _, Z, ?_⟩
 rfl
def kS (x y : Int) : List Int := if y < x then [y, x] else [x, y]
theorem pq {x y : Int} (h : y < x) : kS x y = [y, x] := if_pos h
theorem pu {x y : Int} (h : ¬ y < x) : kS x y = [x, y] := if_neg h
theorem nH {a b : Bool} (h : (bif a then b else false) = true) : a = true ∧ b = true := by cases a <;> cases b <;> simp_all
variable {a b : Int}
theorem p8 : MQ h1 h2 54 [.c (.rs 0 0 2), eI 0, eI 2] [(0, ah [a, b])] (bB (.tup []) [(0, ah (kS a b))]) := by
 refine MC.shift 500 Z (jH 49 [500] h1 h2 Try.func54 Z Z Z Z fun O hF => ?_)
 refine ac (js O Z (AOps.step ((ag O Z Z (by decide) (by decide)).cast (v' := eI 1) Z) Z Z Z (js O Z (jf [6,0,1,2] Z (jn (aq (aG (X := Int × List Int) (fun x => ⟨[(0, .c (.rs 500 0 2)), (1, eI 0), (2, eI 2), (6, eI x.1)], [(500, ah x.2)]⟩) (fun x => (x.1 = 1 ∧ x.2 = [a, b]) ∨ (x.1 = 2 ∧ x.2 = kS a b)) (fun x => (2 - x.1).toNat) (1, [a, b]) (Ent.to ⟨Z, Z, Z, Z, trivial⟩ Z) ?_ (fun x hi => ?_))))))))
 exact .inl ⟨Z, Z⟩
 refine ak (ac (j3 O Z Z Z (jf [12,0,1,2,6] Z (jn (aa O Z Z (fun hc12 => ?_) (fun hc12 => ?_))))))
 refine am (ak (aq (ac ?_)))
 obtain ⟨ex1, ex2⟩ : x.1 = 1 ∧ x.2 = [a, b] := hi.resolve_right (fun g => by rw [g.1] at hc12; exact absurd hc12 (by decide))
 rw [ex1, ex2]
 refine j2 O Z Z (jn (aq (aG (X := Int × List Int) (fun z => ⟨[(0, .c (.rs 500 0 2)), (1, eI 0), (2, eI 2), (6, eI 1), (7, eI z.1)], [(500, ah z.2)]⟩) (fun z => (z.1 = 1 ∧ z.2 = [a, b]) ∨ (z.1 = 0 ∧ z.2 = [b, a] ∧ b < a)) (fun z => z.1.toNat) (1, [a, b]) (Ent.to ⟨Z, Z, Z, Z, Z, trivial⟩ Z) ?_ (fun z hi => ?_))))
 exact .inl ⟨Z, Z⟩
 refine ak (ak (f9 ⟨[(30, eB (bif decide ((0 : Int) < z.1) then decide (b < a) else false)), (0, .c (.rs 500 0 2)), (1, eI 0), (2, eI 2), (6, eI 1), (7, eI z.1)], [(500, ah z.2)]⟩ ?_ ?_))
 cases hb4 : decide ((0 : Int) < z.1) with
 | true =>
  obtain ⟨g1, g2⟩ : z.1 = 1 ∧ z.2 = [a, b] := hi.resolve_right (fun g => by have := ay hb4; omega)
  rw [g1, g2]
  refine q8 O [_,_,_,_,_,_,_,_,_,_,_,_,_,_,_] [pn [] 0 0, pn [] 0 0, pn [0,1] 0 0, pn [0,1,2] 0 0, pn (rg 0 4) 0 0, pn (rg 0 4) 0 0, pn (rg 0 6) 0 0, pn (rg 0 7) 0 0, pn (rg 0 4) 0 0, pn (rg 0 4) 0 0, pn [0,1,2,3,9] 0 0, pn [0,1,2,3,8,9,10] 0 0, pn (rg 0 4++rg 8 4) 0 0, pe (rg 0 13) 0, pn (rg 0 14) 1 1] [13] [_,_] (kc O Z (kc O Z (ai ((V O Z).cast (v' := eB true) Z) (kc O Z (kc O Z (kc O Z (ai ((V O Z).cast (v' := .c (.pt 500 1 0)) Z) (ai (ao O (ex := [.int .i64 b]) Z Z Z Z Z Z) (kc O Z (kc O Z (ai ((ag O Z Z (by decide) (by decide)).cast (v' := eI 0) Z) (ai ((V O Z).cast (v' := .c (.pt 500 0 0)) Z) (ai (ao O (ex := [.int .i64 a]) Z Z Z Z Z Z) (ai (mO O (B0 := 30000) Z Z Z Z (pZ (x := b) (y := a) h1 h2) (ab Z) Z Z Z Z Z) (ai (cG O Z Z Z Z Z) trivial))))))))))))))) ?_
  exact ⟨Z, Ent.to ⟨Z, Z, Z, Z, Z, Z, trivial⟩ Z⟩
 | false =>
  refine q8 O [_,_,_,_,_,_,_,_,_,_,_,_,_,_,_] [pn [] 0 0, pn [] 0 0, pn [0,1] 0 0, pn [0,1,2] 0 0, pn (rg 0 4) 0 0, pn (rg 0 4) 0 0, pn (rg 0 6) 0 0, pn (rg 0 7) 0 0, pn (rg 0 4) 0 0, pn (rg 0 4) 0 0, pn [0,1,2,3,9] 0 0, pn [0,1,2,3,8,9,10] 0 0, pn (rg 0 4++rg 8 4) 0 0, pn (rg 0 13) 0 0, pn (rg 0 14) 0 0] [] [_] (kc O Z (kc O Z (ai ((V O Z).cast (v' := eB false) (congrArg eB hb4)) (kc O Z (ai ⟨Z, Z⟩ (ai ⟨Z, Z⟩ (ai ⟨Z, Z⟩ (ai ⟨Z, Z⟩ (ai ⟨Z, Z⟩ (ai ⟨Z, Z⟩ (ai ⟨Z, Z⟩ (ai ⟨Z, Z⟩ (ai ⟨Z, Z⟩ (ai ⟨Z, Z⟩ (ai (ax O Z Z Z Z Z) trivial))))))))))))))) ?_
  exact ⟨Z, Ent.to ⟨Z, Z, Z, Z, Z, Z, trivial⟩ Z⟩
 refine aa O Z Z (fun hc30 => ?_) (fun hc30 => ?_)
 refine am (ak (aq ?_))
 obtain ⟨hc8, hc9⟩ := nH hc30
 have hlt : b < a := ay hc9
 obtain ⟨ez1, ez2⟩ : z.1 = 1 ∧ z.2 = [a, b] := hi.resolve_right (fun g => by have := ay hc8; omega)
 rw [ez1, ez2]
 refine gW O [_,_,_,_,_,_,_,_,_,_,_,_,_,_,_,_,_,_] [pn [] 0 0, pn [] 0 0, pn [] 0 1, pn [] 0 1, pn [3] 0 1, pn [] 0 0, pn [] 0 0, pn [6] 0 0, pn [5,6,7] 0 0, pn (rg 5 4) 0 0, pn [] 0 0, pn [] 0 0, pn [10,11] 0 0, pn [10,11,12] 0 0, pn ([0,1]++rg 5 9) 0 0, pe ([0,1]++rg 5 10) 0, pn (rg 0 16) 1 1, pe (rg 0 17) 1] [15,17] [_,_,_] (kc O Z (kc O Z (ai (kc O Z (V O Z)) (ai (kc O Z (V O Z)) (ai (ai ((ag O Z Z (by decide) (by decide)).cast (v' := eI 0) Z) ((ag O Z Z (by decide) (by decide)).cast (v' := eI 0) Z)) (kc O Z (kc O Z (ai ((ag O Z Z (by decide) (by decide)).cast (v' := eI 0) Z) (ai ((V O Z).cast (v' := .c (.pt 500 0 0)) Z) (ai (ao O (ex := [.int .i64 a]) Z Z Z Z Z Z) (kc O Z (kc O Z (ai ((V O Z).cast (v' := .c (.pt 500 1 0)) Z) (ai (ao O (ex := [.int .i64 b]) Z Z Z Z Z Z) (ai ((V O Z).cast (v' := .c (.pt 500 1 0)) Z) (ai (ce (ex := [.int .i64 b]) (xs' := [a, a].map (fun n => [D.int .i64 n])) O Z Z Z Z Z Z Z Z Z Z Z Z Z Z Z Z Z Z) (ai ((V O Z).cast (v' := .c (.pt 500 0 0)) Z) (ai (ce (ex := [.int .i64 a]) (xs' := [b, a].map (fun n => [D.int .i64 n])) O Z Z Z Z Z Z Z Z Z Z Z Z Z Z Z Z Z Z) trivial)))))))))))))))))) ?_
 refine jw [30,0,1,2,6,7] Z (dw ?_)
 refine ae (js O Z (AOps.step ((ag O Z Z (by decide) (by decide)).cast (v' := eI 0) Z) Z Z Z (js O Z (jf [7,30,0,1,2,6] Z (jn ?_)))))
 refine ⟨(0, [b, a]), Ent.to ⟨Z, Z, Z, Z, Z, trivial⟩ Z, .inr ⟨Z, Z, hlt⟩, by show (0 : Int).toNat < (1 : Int).toNat; decide⟩
 refine bF (ae ?_)
 have hz9 : kS a b = z.2 := by
  rcases hi with ⟨g1, g2⟩ | ⟨g1, g2, g3⟩
  rw [g2]; exact pu (fun g => by rw [g1, decide_eq_true g] at hc30; cases hc30)
  rw [g2]; exact pq g3
 refine js O Z (AOps.step ((ag O Z Z (by decide) (by decide)).cast (v' := eI 2) Z) Z Z Z (js O Z (jf [6,30,0,1,2,7] Z (jn ?_))))
 refine ⟨(2, kS a b), Ent.to ⟨Z, Z, Z, Z, trivial⟩ (by rw [hz9]), .inr ⟨Z, Z⟩, by show ((2 : Int) - 2).toNat < ((2 : Int) - 1).toNat; decide⟩
 refine bF ?_
 show _ ∧ _
 obtain ⟨ex1, ex2⟩ : x.1 = 2 ∧ x.2 = kS a b := hi.resolve_left (fun g => by rw [g.1] at hc12; exact absurd hc12 (by decide))
 rw [ex2]
 refine ⟨.inr Z, _, ap, _, Z, Z, Z⟩
theorem qa : MQ h1 h2 47 [.c (.rs 0 0 2), eI 0, eI 2, eI 2] [(0, ah [a, b])] (bB (.tup []) [(0, ah (kS a b))]) := by
 refine MC.shift 500 Z (jH 134 [500] h1 h2 Try.func47 Z Z Z Z fun O hF => ?_)
 refine ac (js O Z (aW (js O Z (jn (aq (aG (X := Unit) (fun _u => ⟨[(0, .c (.rs 500 0 2)), (1, eI 0), (2, eI 2)], [(500, ah [a, b])]⟩) (fun _u => True) (fun _u => 0) () (Ent.to ⟨Z, Z, Z, trivial⟩ Z) ?_ (fun _ hi => ?_)))))))
 trivial
 refine aq (ac (j2 O Z Z (AOps.step ((ag O Z Z (by decide) (by decide)).cast (v' := eI 2) Z) Z Z Z (js O Z (jf [10,0,1,2] Z (jn (ak (ac (j2 O Z Z (jn (aa O Z Z (fun hc23 => ?_) (fun hc23 => ?_))))))))))))
 refine ac (j3 O Z Z Z (al O [500] (bin := [ah [a, b]]) Z Z Z Z (p8 (a := a) (b := b) h1 h2) Z Z Z Z Z Z (B0 := 28000) Z Z (au ?_)))
 refine jf [23,22,10,0,1,2] Z (jr ?_)
 refine ⟨.inl Z, _, ap, _, Z, Z, Z⟩
 exact absurd hc23 (by decide)
theorem qb : MQ h1 h2 35 [.c (.rs 0 0 2)] [(0, ah [a, b])] (bB (.tup []) [(0, ah (kS a b))]) := by
 refine MC.shift 500 Z (jH 11 [500] h1 h2 Try.func35 Z Z Z Z fun O hF => ?_)
 refine ac (js O Z ?_)
 first | refine cw O Z ?_ | refine js O Z ?_ | refine bm O Z Z ?_
 refine js O Z (jf [2,0] Z (jn (ae (j3 O Z Z Z (AOps.step ((Val.conv O (k' := .u64) (dt := .int .i64) (b := true) Z Z Z (by kernel_rfl) (by kernel_rfl)).cast (v' := .c (.d (.int .u64 2))) Z) Z Z Z (jf [8,6,5,0] Z (af O Z Z Z Z (p9 h1 h2) (ab Z) Z Z Z Z Z (B0 := 10000) Z (jf [9,6,5,0] Z (al O [500] (bin := [ah [a, b]]) Z Z Z Z (qa (a := a) (b := b) h1 h2) Z Z Z Z Z Z (B0 := 11000) Z Z (au ?_))))))))))
 refine jf [0] Z (jn ?_)
 show _ ∧ _
 refine ⟨.inr Z, _, ap, _, Z, Z, Z⟩
theorem ml : MQ h1 h2 36 [.c (.rs 0 0 2)] [(0, ah [a, a])] (bB (.c (.rs 0 0 1)) [(0, ah [a, 0])]) := by
 refine MC.shift 500 Z (jH 61 [500] h1 h2 Try.func36 Z Z Z Z fun O hF => ?_)
 refine ac (js O Z (jn (ak (ac (js O Z ?_)))))
 first | refine cw O Z ?_ | refine js O Z ?_ | refine bm O Z Z ?_
 refine js O Z (jf [8,2,0] Z (jn (aa O Z Z (fun hc8 => ?_) (fun hc8 => ?_))))
 exact absurd hc8 (by decide)
 refine am (ak (ac (js O Z (jn (aq (aG (X := Int) (fun k => ⟨[(0, .c (.rs 500 0 2)), (3, eI k)], [(500, ah [a, a])]⟩) (fun k => k = 1 ∨ (k = 2 ∧ False)) (fun k => (2 - k).toNat) 1 (Ent.to ⟨Z, Z, trivial⟩ Z) ?_ (fun k hi => ?_)))))))
 exact .inl Z
 refine ak (ac (j2 O Z Z ?_))
 first | refine cw O Z ?_ | refine js O Z ?_ | refine bm O Z Z ?_
 refine js O Z (jf [13,0,3] Z (jn (aa O Z Z (fun hc13 => ?_) (fun hc13 => ?_))))
 refine am (ak (aq (ak ?_)))
 obtain ek : k = 1 := hi.resolve_right (fun g => g.2)
 rw [ek]
 refine gW O [_,_,_,_,_,_,_,_,_,_] [pn [] 0 0, pn [] 0 0, pn [0,1] 0 0, pn [0,1,2] 0 0, pn [] 0 0, pn [] 0 0, pn [5] 0 0, pn [4,5,6] 0 0, pn (rg 4 4) 0 0, pn (rg 0 9) 0 0] [] [_] (kc O Z (kc O Z (ai ((V O Z).cast (v' := .c (.pt 500 1 0)) Z) (ai (ao O (ex := [.int .i64 a]) Z Z Z Z Z Z) (kc O Z (kc O Z (ai ((ag O Z Z (by decide) (by decide)).cast (v' := eI 0) Z) (ai ((V O Z).cast (v' := .c (.pt 500 0 0)) Z) (ai (ao O (ex := [.int .i64 a]) Z Z Z Z Z Z) (kc O Z trivial)))))))))) ?_
 refine jw [25,13,0,3] Z (dw ?_)
 refine aa O Z Z (fun hc25 => ?_) (fun hc25 => ?_)
 refine ac (j2 O Z Z (AOps.step (eC O Z Z Z Z Z Z Z Z Z) Z Z Z (js O Z (jf [4,25,13,0,3] Z (jn (ak (ac (js O Z (jn (aq (aG (X := Unit) (fun _u => ⟨[(0, .c (.rs 500 0 2)), (3, eI 1), (4, .c (.rs 500 1 1)), (5, eI 1)], [(500, ah [a, a])]⟩) (fun _u => True) (fun _u => 0) () (Ent.to ⟨Z, Z, Z, Z, trivial⟩ Z) ?_ (fun _ hi => ?_))))))))))))
 trivial
 refine ak (ac (j2 O Z Z ?_))
 first | refine cw O Z ?_ | refine js O Z ?_ | refine bm O Z Z ?_
 refine js O Z (jf [32,0,3,4,5] Z (jn (aa O Z Z (fun hc32 => ?_) (fun hc32 => ?_))))
 exact absurd hc32 (by decide)
 refine bF (ac (j2 O Z Z (AOps.step (eC O Z Z Z Z Z Z Z Z Z) Z Z Z (jf [56,32,0,3,4,5] Z (AOps.heap (lg (z := .int .i64 0) (ex := [.int .i64 a]) (xs' := [a, 0].map (fun n => [D.int .i64 n])) O Z Z Z Z Z Z Z Z Z Z Z Z Z Z Z Z Z Z Z) Z (au ?_))))))
 refine au ?_
 refine aW (j2 O Z Z (AOps.step (aJ O Z Z Z Z Z Z Z Z Z (m := 1) Z (by decide)) Z Z Z (js O Z (jf [2,56,32,0,3,4,5] Z (jr ?_)))))
 refine ⟨.inl Z, _, ap, _, Z, Z, Z⟩
 exact absurd hc25 (by rw [decide_eq_true Z]; decide)
 refine bF (ac (j2 O Z Z (jr ?_)))
 have ek : k = 1 := hi.resolve_right (fun g => g.2)
 rw [ek] at hc13
 exact absurd hc13 (by decide)
theorem mj (hab : ¬ b = a) : MQ h1 h2 36 [.c (.rs 0 0 2)] [(0, ah [a, b])] (bB (.c (.rs 0 0 2)) [(0, ah [a, b])]) := by
 refine MC.shift 500 Z (jH 61 [500] h1 h2 Try.func36 Z Z Z Z fun O hF => ?_)
 refine ac (js O Z (jn (ak (ac (js O Z ?_)))))
 first | refine cw O Z ?_ | refine js O Z ?_ | refine bm O Z Z ?_
 refine js O Z (jf [8,2,0] Z (jn (aa O Z Z (fun hc8 => ?_) (fun hc8 => ?_))))
 exact absurd hc8 (by decide)
 refine am (ak (ac (js O Z (jn (aq (aG (X := Int) (fun k => ⟨[(0, .c (.rs 500 0 2)), (3, eI k)], [(500, ah [a, b])]⟩) (fun k => k = 1 ∨ k = 2) (fun k => (2 - k).toNat) 1 (Ent.to ⟨Z, Z, trivial⟩ Z) ?_ (fun k hi => ?_)))))))
 exact .inl Z
 refine ak (ac (j2 O Z Z ?_))
 first | refine cw O Z ?_ | refine js O Z ?_ | refine bm O Z Z ?_
 refine js O Z (jf [13,0,3] Z (jn (aa O Z Z (fun hc13 => ?_) (fun hc13 => ?_))))
 refine am (ak (aq (ak ?_)))
 obtain ek : k = 1 := hi.resolve_right (fun g => by rw [g] at hc13; exact absurd hc13 (by decide))
 rw [ek]
 refine gW O [_,_,_,_,_,_,_,_,_,_] [pn [] 0 0, pn [] 0 0, pn [0,1] 0 0, pn [0,1,2] 0 0, pn [] 0 0, pn [] 0 0, pn [5] 0 0, pn [4,5,6] 0 0, pn (rg 4 4) 0 0, pn (rg 0 9) 0 0] [] [_] (kc O Z (kc O Z (ai ((V O Z).cast (v' := .c (.pt 500 1 0)) Z) (ai (ao O (ex := [.int .i64 b]) Z Z Z Z Z Z) (kc O Z (kc O Z (ai ((ag O Z Z (by decide) (by decide)).cast (v' := eI 0) Z) (ai ((V O Z).cast (v' := .c (.pt 500 0 0)) Z) (ai (ao O (ex := [.int .i64 a]) Z Z Z Z Z Z) (kc O Z trivial)))))))))) ?_
 refine jw [25,13,0,3] Z (dw ?_)
 refine aa O Z Z (fun hc25 => ?_) (fun hc25 => ?_)
 exact absurd (ay hc25) hab
 refine am (ae (js O Z (AOps.step ((ag O Z Z (by decide) (by decide)).cast (v' := eI 2) Z) Z Z Z (js O Z (jf [3,25,13,0] Z (jn ?_))))))
 refine ⟨2, Ent.to ⟨Z, Z, trivial⟩ Z, .inr Z, by show ((2 : Int) - 2).toNat < ((2 : Int) - 1).toNat; decide⟩
 refine bF (ac (j2 O Z Z (jr ?_)))
 refine ⟨.inl Z, _, ap, _, Z, Z, Z⟩
theorem l6 {x k : Int} : (if x < k then [x, k] else if x = k then [k] else [k, x]) = if x = k then [k] else kS k x := by
 unfold kS
 by_cases h1 : x < k
 rw [if_pos h1, if_neg (by omega), if_pos h1]
 rw [if_neg h1, if_neg h1]
theorem m5 {a b : Int} : ∃ p q, kS a b = [p, q] ∧ (a ≠ b → ¬ q = p) ∧ (a = b → p = b ∧ q = b) := by
 unfold kS
 by_cases h : b < a
 exact ⟨b, a, if_pos h, fun h => h, fun h => ⟨Z, h⟩⟩
 exact ⟨a, b, if_neg h, fun h g => h g.symm, fun h => ⟨h, Z⟩⟩
theorem fH {p : Prop} [Decidable p] (h : decide p = false) : ¬ p := bh h
theorem lY {k : Nat} (hk : k < c.length) (hc : c.length ≤ 1000) : MQ h1 h2 19 [bf c, eI k] [] (Rows (.c (.rs 0 0 (tg (c.getD k default) k).length)) [ah (tg (c.getD k default) k)]) := by
 refine b9 (jB 35 h1 h2 Try.func19 Z Z Z fun O hF => ?_)
 refine ac (js O Z (aW (j2 O Z Z (AOps.step (cT O Z Z Z Z Z Z Z Z (iP hk)) Z Z Z (j2 O Z Z ?_)))))
 first | refine ji O Z ?_ | refine bm O Z Z ?_
 refine jf [13,11,4] Z (jl O Z (au ?_))
 refine jo O Z (au ?_)
 refine js O Z (jf [6,5,4] Z (jn (ak (ac (j2 O Z Z (jn (aq (ac (j2 O Z Z (jn (aa O Z Z (fun hc16 => ?_) (fun hc16 => ?_))))))))))))
 refine ac (js O Z (jr ?_))
 rw [tg, if_pos (ay hc16)]
 refine ⟨.inl Z, _, (fV 4 900 1 true Z Z).trans (Ent.to (e' := [(4, _)]) ⟨Z, trivial⟩ Z), _, Z, [900], by decide, Z, Z, Z⟩
 refine ac (j2 O Z Z (jf [18,17,15,14,6,5,4] Z (jn (aa O Z Z (fun hc18 => ?_) (fun hc18 => ?_)))))
 refine ac (j2 O Z Z (jf [21,17,15,14,6,5,4] Z (AOps.heap (bg O Z Z Z) Z (au ?_))))
 refine js O Z (jf [4,17,15,14,6,5] Z (jr ?_))
 rw [tg, if_neg (fH hc16), if_pos (ay hc18)]
 refine ⟨.inl Z, _, ap, _, Z, [22], by decide, Z, Z, Z⟩
 refine ac (j2 O Z Z (jf [23,17,15,14,6,5,4] Z (jn (aa O Z Z (fun hc23 => ?_) (fun hc23 => ?_)))))
 refine ac (j3 O Z Z Z (jf [27,25,17,15,14,6,5,4] Z (AOps.heap (bg O Z Z Z) Z (au ?_))))
 refine js O Z (jf [7,17,15,14,6,5,4] Z (aW (js O Z (al O [28] (bin := [ah [((k : Int) + 1), (c.getD k default).a]]) Z Z Z Z (qb (a := ((k : Int) + 1)) (b := (c.getD k default).a) h1 h2) Z Z Z Z Z Z (B0 := 31000) Z Z ?_))))
 obtain ⟨p, q, epq, hpq, hpe⟩ := m5 (a := ((k : Int) + 1)) (b := (c.getD k default).a)
 refine au ?_
 rw [epq]
 refine jf [7,17,15,14,6,5,4] Z (aW (js O Z ?_))
 cases hb32 : decide (((k : Int) + 1) = (c.getD k default).a) with
 | true =>
  obtain ⟨ep, eq⟩ := hpe (ay hb32)
  rw [ep, eq]
  first | refine al O [28] (bin := [ah [(c.getD k default).a, (c.getD k default).a]]) Z Z Z Z (ml (a := (c.getD k default).a) h1 h2) Z Z Z Z Z Z (B0 := 33000) Z Z ?_ | refine al O [28] (bin := [ah [p, q]]) Z Z Z Z (mj (a := p) (b := q) h1 h2 hne) Z Z Z Z Z Z (B0 := 33000) Z Z ?_
  refine au ?_
  refine js O Z (jf [4,7,17,15,14,6,5] Z (jr ?_))
  have hE := ay hb32
  rw [tg, if_neg (fH hc16), if_neg (fH hc18), if_pos (ay hc23), l6, if_pos hE.symm]
  rw [hE]
  refine ⟨.inl Z, _, Ent.cut 28 1 Z, _, Z, [28], by decide, Z, Z, Z⟩
 | false =>
  have hne := hpq (bh hb32)
  first | refine al O [28] (bin := [ah [(c.getD k default).a, (c.getD k default).a]]) Z Z Z Z (ml (a := (c.getD k default).a) h1 h2) Z Z Z Z Z Z (B0 := 33000) Z Z ?_ | refine al O [28] (bin := [ah [p, q]]) Z Z Z Z (mj (a := p) (b := q) h1 h2 hne) Z Z Z Z Z Z (B0 := 33000) Z Z ?_
  refine au ?_
  refine js O Z (jf [4,7,17,15,14,6,5] Z (jr ?_))
  have hE := bh hb32
  rw [tg, if_neg (fH hc16), if_neg (fH hc18), if_pos (ay hc23), l6, if_neg (fun g => hE g.symm), epq]
  refine ⟨.inl Z, _, ap, _, Z, [28], by decide, Z, Z, Z⟩
 refine am (ac (js O Z (jf [33,17,15,14,6,5,4] Z (AOps.heap (bg O Z Z Z) Z (au ?_)))))
 refine js O Z (jf [4,17,15,14,6,5] Z (jr ?_))
 rw [tg, if_neg (fH hc16), if_neg (fH hc18), if_neg (fH hc23)]
 refine ⟨.inl Z, _, ap, _, Z, [34], by decide, Z, Z, Z⟩
theorem kK {ws : List Int} {z : Int} : ((ws ++ [z]).map (fun n => [D.int .i64 n])).take ws.length = ws.map (fun n => [D.int .i64 n]) := by simp
theorem eZ {z : Int} {n : Nat} : bW 0 ((n : Int) - 1) z = true ↔ 0 ≤ z ∧ z < n := by unfold bW; simp only [aY, decide_eq_true_eq]; omega
theorem qc {st : List Int} (htg : m2 c) (hst : ∀ z ∈ st, 0 ≤ z ∧ z ≤ 100) (hsl : st.length ≤ 100) : MQ h1 h2 22 [bf c, .c (.rs 0 0 st.length)] [(0, ah st)] (bB (.c (.rs 1 0 c.length)) [(1, lL (bz c st))]) := by
 refine MC.shift 500 Z (jH 44 [500] h1 h2 Try.func22 Z Z Z Z fun O hF => ?_)
 have h80 := htg.1
 refine ac (js O Z (aW (js O Z ?_)))
 first | refine cw O Z ?_ | refine js O Z ?_ | refine bm O Z Z ?_
 refine jf [8,4,0,1] Z (AOps.heap (f7 O Z Z Z Z Z Z Z Z Z (by first | omega | (simp at *; omega)) (by first | omega | (simp at *; omega)) (by first | omega | (simp at *; omega)) (by first | omega | (dsimp only; omega) | (simp only [bv] at *; omega)) (by first | omega | (simp at *; omega)) Z Z Z) Z (au ?_))
 refine js O Z (jf [5,4,0,1] Z (jn (ak (aq (aG (X := List Bool × List Int) (fun x => ⟨[(0, bf c), (1, .c (.rs 901 0 x.2.length)), (5, .c (.rs 9 0 c.length))], [(9, lL x.1), (901, ah x.2)]⟩) (fun x => Rsh c st x.1 x.2 ∧ x.2.length + 3 * eJ x.1 ≤ 3 * c.length + st.length) (fun x => 3 * eJ x.1 + x.2.length) (List.replicate c.length false, st) ((aj 500 901 Z Z).trans (Ent.to ⟨Z, Z, Z, trivial⟩ (by rw [lL, List.map_replicate]; rfl))) ?_ (fun x hi => ?_))))))
 exact ⟨Rsh.zero hst, by show st.length + 3 * eJ (List.replicate c.length false) ≤ _; rw [k8]; omega⟩
 refine ak (ac ?_)
 obtain ⟨u, eu⟩ : ∃ u, u = x.1 := ⟨_, rfl⟩
 obtain ⟨ws, ew⟩ : ∃ ws, ws = x.2 := ⟨_, rfl⟩
 rw [← eu, ← ew] at hi ⊢
 obtain ⟨hi1, hi2⟩ := hi
 have hul := hi1.len
 have hwl : ws.length ≤ 400 := by omega
 refine js O Z ?_
 first | refine cw O Z ?_ | refine js O Z ?_ | refine bm O Z Z ?_
 refine js O Z (jf [12,0,1,5] Z (jn (aa O Z Z (fun hc12 => ?_) (fun hc12 => ?_))))
 refine am (aq (ac ?_))
 obtain ⟨w2, z, ez⟩ : ∃ w2 z, ws = w2 ++ [z] := by rcases List.eq_nil_or_concat ws with h9 | ⟨w2, z, h9⟩; rw [h9] at hc12; cases hc12; exact ⟨w2, z, by rw [h9, List.concat_eq_append]⟩
 rw [ez] at hi1 hi2 hwl
 rw [cx, gb] at hi2 hwl
 have hzz := hi1.nn z (by simp)
 rw [ez, show (w2 ++ [z]).length = w2.length + 1 by simp]
 have hcu : eJ u ≤ c.length := by rw [← hul]; exact List.count_le_length
 refine j2 O Z Z ?_
 first | refine cw O Z ?_ | refine js O Z ?_ | refine bm O Z Z ?_
 refine AOps.step ((ag O Z Z (by omega) (by omega)).cast (v' := eI (w2.length : Nat)) (congrArg eI (by omega))) Z Z Z (bm O Z Z (AOps.step (ao O (ex := [.int .i64 z]) Z Z Z Z (by simp) Z) Z Z Z (js O Z (jf [6,12,0,1,5] Z (aW (j2 O Z Z ?_))))))
 first | refine cw O Z ?_ | refine js O Z ?_ | refine bm O Z Z ?_
 refine AOps.step ((ag O Z Z (by omega) (by omega)).cast (v' := eI (w2.length : Nat)) (congrArg eI (by omega))) Z Z Z (AOps.step (aJ O Z Z Z Z Z Z Z Z Z Z (Nat.le_succ _)) Z Z Z (aF (Ent.cut 901 w2.length Z) (au ?_)))
 rw [kK]
 refine js O Z (jf [1,6,12,0,5] Z (jn (ak (f9 ⟨[(34, eB (bif bW 0 ((c.length : Int) - 1) z then !u.getD z.toNat default else false)), (0, bf c), (1, .c (.rs 901 0 w2.length)), (5, .c (.rs 9 0 c.length)), (6, eI z)], [(9, lL u), (901, ah w2)]⟩ ?_ ?_))))
 refine ae (j2 O Z Z ?_)
 first | refine cw O Z ?_ | refine js O Z ?_ | refine bm O Z Z ?_
 refine jf [26,24,1,6,12,0,5] Z (af O Z Z Z Z (nl (k := z) (n := c.length) h1 h2 (by omega)) (ab Z) Z Z Z Z Z (B0 := 28000) Z ?_)
 cases hb28 : bW 0 ((c.length : Int) - 1) z with
 | true =>
  refine js O Z (jf [28,1,6,12,0,5] Z (aV Z (js O Z (aV Z (js O Z (aV Z ?_))))))
  have hzn := (eZ (z := z)).1 hb28
  refine bm O Z Z (jf [31,28,1,6,12,0,5] Z (aV Z (AOps.step (ao O (ex := bL (u.getD z.toNat default)) Z Z Z Z (lw (by omega) (by omega)) Z) Z Z Z (jf [32,28,1,6,12,0,5] Z (aV Z (js O Z (AOps.step (cG O Z Z Z Z Z) Z Z Z (jf [34,1,6,12,0,5] Z (jn ?_)))))))))
  exact ⟨Z, Ent.to ⟨Z, Z, Z, Z, Z, trivial⟩ Z⟩
 | false =>
  refine js O Z (jf [28,1,6,12,0,5] Z (AOps.skip Z Z Z Z Z Z (AOps.skip Z Z Z Z Z Z (AOps.skip Z Z Z Z Z Z (jf [31,28,1,6,12,0,5] Z (AOps.skip Z Z Z Z Z Z (jf [32,28,1,6,12,0,5] Z (AOps.skip Z Z Z Z Z Z (AOps.step (ax O Z Z Z Z Z) Z Z Z (jf [34,1,6,12,0,5] Z (jn ?_)))))))))))
  exact ⟨Z, Ent.to ⟨Z, Z, Z, Z, Z, trivial⟩ Z⟩
 refine aa O Z Z (fun hc34 => ?_) (fun hc34 => ?_)
 refine ac ?_
 obtain ⟨hc7, hc8⟩ := nH hc34
 have hzn := (eZ (z := z)).1 hc7
 obtain ⟨k, rfl⟩ : ∃ k : Nat, z = (k : Int) := ⟨z.toNat, by omega⟩
 have hc9 := oQ hc8
 have hkn : k < c.length := by omega
 have hcs := mG (u := u) (j := k) (by omega) hc9
 have htl := gg (x := c.getD k default) (k := k)
 refine j2 O Z Z (bm O Z Z (jf [37,34,0,1,5,6] Z (AOps.heap (bd (ex := bL (u.getD k default)) (xs' := (u.set k true).map bL) O Z Z Z Z Z Z Z Z Z Z Z Z Z Z (lw (by omega) (by omega)) (nI (v := true) (by omega) Z)) Z (au ?_))))
 refine au ?_
 refine jn (ae (j3 O Z Z Z (dv O (B0 := 42000) Z Z Z Z (lY (c := c) (k := k) h1 h2 hkn (by omega)) (ab Z) Z Z Z Z Z Z (au ?_))))
 refine jf [41,38,37,34,0,1,5,6] Z (AOps.heap (aO (zs := (w2 ++ tg (c.getD k default) k).map (fun n => [D.int .i64 n])) (n := (w2 ++ tg (c.getD k default) k).length) O Z Z Z Z Z Z Z Z Z Z Z Z Z Z Z Z (.row Z (dE _).symm) Z (dE _).symm (by decide) Z (by simp only [dE]; omega) (by show _ * 8 ≤ _; simp only [dE]; omega) (by rw [List.map_append]) (dE _)) Z (au ?_))
 refine au ?_
 refine js O Z (jf [1,37,34,0,5,6] Z (jn ?_))
 have hin := mL htg hi1 (ws' := w2) (fun y => by rw [List.mem_append, List.mem_singleton]; exact Or.comm) (by omega) (by omega)
 refine ⟨(u.set k true, w2 ++ tg (c.getD k default) k), ((aN [9,42] (e' := [(0, _), (1, _), (5, _)]) Z Z ⟨Z, Z, Z, trivial⟩ Z).trans (aj 42 901 Z Z)).trans (Ent.to ⟨Z, Z, Z, trivial⟩ Z), ⟨hin, ?_⟩, ?_⟩
 show (w2 ++ tg (c.getD k default) k).length + 3 * eJ (u.set k true) ≤ _
 rw [cx]; omega
 show 3 * eJ (u.set k true) + (w2 ++ tg (c.getD k default) k).length < 3 * eJ u + (w2.length + 1)
 rw [cx]; omega
 refine am ?_
 refine ⟨(u, w2), Ent.to ⟨Z, Z, Z, trivial⟩ Z, ⟨hi1.out (ws' := w2) (fun y => by rw [List.mem_append, List.mem_singleton]; exact Or.comm) (fun hl => ?_), by show w2.length + 3 * eJ u ≤ _; omega⟩, by show 3 * eJ u + w2.length < 3 * eJ u + (w2.length + 1); omega⟩
 rw [(eZ (z := z)).2 ⟨hzz.1, hl⟩] at hc34
 exact nN hc34
 refine bF (ac (j2 O Z Z (jr ?_)))
 have hw0 : ws = [] := by cases ws with | nil => rfl | cons z w2 => have h9 : ¬ (0 : Int) < ((z :: w2).length : Nat) := bh hc12; rw [lp] at h9; omega
 rw [hw0] at hi1
 rw [← hi1.done]
 refine ⟨.inl Z, _, (aN [9] (e' := [(4, _)]) Z Z ⟨Z, trivial⟩ Z).trans (aj 9 501 Z Z), _, Z, Z, Z⟩
end Go.Al
