/- Paths, in plain Lean; de with symbols replaced. -/
import Derived.Test.YtbkloknmpkgmbaaGreatH
import Derived.Test.YtbkloknmpkgmbaaGreatC
import Derived.Test.YtbkloknmpkgmbaaGreatE
set_option linter.unusedVariables false
set_option linter.unusedSimpArgs false
set_option maxRecDepth 10000
set_option maxHeartbeats 4000000
open Go.Proofs
namespace Go.Al
variable {L : Nat} (h1 : 4096 ≤ L) (h2 : L ≤ 1073741824)
structure In where
  op : Int
  a : Int
  deriving Inhabited, DecidableEq
structure Pt where
  k : Int
  fs : List Tm
  deriving Inhabited, DecidableEq
structure An where
  pre : List Tm
  post : List Tm
  code : List In
  pts : List Pt
  deriving Inhabited, DecidableEq
def sf (x : In) : Bool :=
  if x.op = 0 ∨ x.op = 4 then num x.a else if x.op = 1 ∨ x.op = 2 then j0 0 3 x.a else if x.op = 5 ∨ x.op = 6 then j0 0 79 x.a else if x.op = 9 then j0 0 3 x.a
  else if x.op = 3 ∨ x.op = 7 ∨ x.op = 8 ∨ x.op = 10 ∨ x.op = 11 then decide (x.a = 0) else false
def y1 (x : In) : Bool := decide (x.op = 5) || decide (x.op = 6)
def DS (ps : List Pt) (k : Int) : Bool := ps.any fun p => decide (p.k = k)
def B7 (c : List In) (k : Int) : Bool := c.any fun x => y1 x && decide (x.a = k)
def plB (c : List In) (ps : List Pt) (k : Int) : Bool := B7 c k || DS ps k
def Bc (pl : Int → Bool) : Nat → List In → List In
  | _, [] => []
  | k, x :: r => if pl (k : Int) = true then [] else x :: Bc pl (k + 1) r
def sgt (c : List In) (ps : List Pt) (k : Nat) : List In := match c.drop k with
  | [] => []
  | x :: r => x :: Bc (plB c ps) (k + 1) r
def qH : List Int → List In → Bool
  | [], _ => true
  | _ :: _, [] => false
  | o :: os, x :: s => decide (x.op = o) && qH os s
def vM (x : In) : Bool := decide (x.op = 1) || decide (x.op = 3) || decide (x.op = 7)
def BV (s : List In) : Nat × List In :=
  let x := s.getD 0 default
  let y := s.getD 1 default
  if qH [0,4] s = true ∧ num (x.a * y.a) = true then (2, [⟨0, x.a * y.a⟩])
  else if qH [0,0,3] s = true ∧ num (x.a + y.a) = true then (3, [⟨0, x.a + y.a⟩])
  else if qH [0,1,3] s = true ∧ x.a = 0 then (3, [y])
  else if qH [0,1,4,3] s = true ∧ x.a = 0 then (4, [y, s.getD 2 default])
  else if (vM x = true ∨ x.op = 4) ∧ qH [x.op, 0, 3] s = true ∧ y.a = 0 then (3, [x])
  else if vM x = true ∧ qH [x.op, 4] s = true ∧ y.a = 1 then (2, [x])
  else if qH [4,4] s = true ∧ num (x.a * y.a) = true then (2, [⟨4, x.a * y.a⟩])
  else (0, [])
def DQ (k less : Int) (x : In) : In := if y1 x = true ∧ k < x.a then ⟨x.op, x.a - less⟩ else x
def sPt (k less : Int) (p : Pt) : Pt := if k < p.k then ⟨p.k - less, p.fs⟩ else p
def DO (a : An) (k n : Nat) (by' : List In) : An :=
  ⟨a.pre, a.post, (a.code.take k ++ by' ++ a.code.drop (k + n)).map (DQ k ((n : Int) - by'.length)), a.pts.map (sPt k ((n : Int) - by'.length))⟩
abbrev ta (a : An) (k : Nat) : Nat × List In := BV (sgt a.code a.pts k)
def yi (a : An) : Nat → Nat → Option An
  | 0, _ => none
  | f + 1, k => if 0 < (ta a k).1 then some (DO a k (ta a k).1 (ta a k).2) else yi a f (k + 1)
def B8 (a : An) : Option An := yi a a.code.length 0
def yu : Nat → An → An
  | 0, a => a
  | f + 1, a => match B8 a with
    | none => a
    | some b => yu f b
def te (a : An) : An := yu a.code.length a
structure AOk (a : An) : Prop where
  code : ∀ x ∈ a.code, sf x = true
  pts : ∀ p ∈ a.pts, 0 ≤ p.k ∧ p.k ≤ 79
  len : a.code.length ≤ 80
  np : a.pts.length ≤ 8
  npre : a.pre.length ≤ 6
  npost : a.post.length ≤ 6
structure RuOk (s : List In) (r : Nat × List In) : Prop where
  n : r.1 ≤ s.length
  lt : r.2.length < r.1
  one : 1 ≤ r.2.length
  two : r.2.length ≤ 2
  jmp : ∀ x ∈ r.2, y1 x = false
  ok : (∀ x ∈ s, sf x = true) → ∀ x ∈ r.2, sf x = true
structure Fo (a out : An) (k : Nat) : Prop where
  le : k ≤ out.code.length
  eq : te out = te a
  ok : AOk out
  no : ∀ j, j < k → (ta out j).1 = 0
structure Gn (a out : An) : Prop where
  eq : te out = te a
  ok : AOk out
structure Cs where
  code : List In
  pts : List Pt
  fr : List Int
  to : List Int
mutual
/-- Each element has a place of its own, and behind it the statements that it eQ. -/
def Tr.cok (n : Nat) : Tr → Prop
  | .node s a ks => (0 ≤ a ∧ a < n) ∧ (s.sum.term = true ∧ s.index.term = true) ∧ (bO s = true ∧ (ks.length : Int) = bm s.kind) ∧ Trs.cok n ks
def Trs.cok (n : Nat) : List Tr → Prop
  | [] => True
  | t :: r => t.cok n ∧ Trs.cok n r
end
mutual
def Tr.nodes : Tr → Nat
  | .node _ _ ks => 1 + Trs.nodes ks
def Trs.nodes : List Tr → Nat
  | [] => 0
  | t :: r => t.nodes + Trs.nodes r
end
structure CsLe (m : Nat) (c d : Cs) : Prop where
  code : d.code.length ≤ c.code.length + 30 * m
  pts : d.pts.length ≤ c.pts.length + m
  fr : d.fr.length = c.fr.length
  to : d.to.length = c.to.length
  ge : c.code.length ≤ d.code.length
theorem ro {n : Nat} {f : Nat → Option (Tr × Nat)} (hf : ∀ k t k', f k = some (t, k') → k < k' ∧ t.cok n ∧ t.nodes = k' - k) : ∀ {q k ts k'}, cw f q k = some (ts, k') → Trs.cok n ts ∧ k ≤ k' ∧ Trs.nodes ts = k' - k
 | 0, k, ts, k', h => by
  simp only [cw, eD, Prod.mk.injEq] at h
  obtain ⟨rfl, rfl⟩ := h
  exact ⟨trivial, cC _, by simp [Trs.nodes]⟩
 | q + 1, k, ts, k', h => by
  unfold cw at h
  cases hx : f k with
  | none => rw [hx] at h; cases h
  | some x =>
   obtain ⟨t, k1⟩ := x
   rw [hx] at h
   simp only [Option.map_eq_some_iff] at h
   obtain ⟨⟨ts1, k2⟩, h1, h2⟩ := h
   simp only [Prod.mk.injEq] at h2
   obtain ⟨rfl, rfl⟩ := h2
   have h3 := hf k t k1 hx
   have h4 := ro hf h1
   exact ⟨⟨h3.2.1, h4.1⟩, by omega, by simp only [Trs.nodes]; omega⟩
theorem q7 {body : List Sm} : ∀ {m k : Nat} {t : Tr} {k' : Nat}, cq m body k = some (t, k') → k < k' ∧ t.cok body.length ∧ t.nodes = k' - k
 | 0, _, _, _, h => by cases h
 | m + 1, k, t, k', h => by
  have hlt := fZ h
  unfold cq at h
  split at h
  cases h
  split at h
  cases h
  rename_i h1 h2
  simp only [Option.map_eq_some_iff] at h
  obtain ⟨⟨ts, k2⟩, h3, h4⟩ := h
  simp only [Prod.mk.injEq] at h4
  obtain ⟨rfl, rfl⟩ := h4
  have h5 := ro (fun k t k' h => q7 h) h3
  have h8 := (kZ (fun k t k' h => kT h) h3).1
  have hs : bO (body.getD k default) = true := by
   cases hb : bO (body.getD k default) with
   | true => rfl
   | false => unfold bW at h2; rw [hb] at h2; exact absurd (by rw [if_neg (by decide)]; decide) h2
  refine ⟨by omega, ⟨by omega, kp hs, ⟨hs, ?_⟩, h5.1⟩, by simp only [Tr.nodes]; omega⟩
  rw [h8]
  unfold bW
  rw [if_pos hs]
  have := (cW (body.getD k default).kind).1
  omega
structure Pth where
  frm : Int
  to : Int
  facts : List Tm
  ends : List Tm
  ev : List Int
abbrev Pth.cells (p : Pth) : List D := [.int .i64 p.frm, .int .i64 p.to, dK p.facts, dK p.ends, bj p.ev]
structure Pw where
  vars : List Tm
  facts : List Tm
  ev : List Int
  sym : Nat
structure Gs where
  paths : List Pth
  conds : List Sq
  bad : Bool
inductive Fr where
  | st (t : Tr)
  | lp (k : Nat)
structure Pe where
  post : List Tm
  lf : Nat → List Tm
  num : Int → Nat
def aQ (t : Tm) (vs : List Tm) : Tm × Bool := oo (t.c + cO Tm.c vs t.xs) (cx vs t.xs)
def lA (k : Nat) : Tm := ⟨0, List.replicate k 0 ++ [1]⟩
def Gs.flag (b : Bool) (g : Gs) : Gs := ⟨g.paths, g.conds, g.bad || b⟩
def Gs.goal (w : Pw) (t : Tm) (g : Gs) : Gs := ⟨g.paths, g.conds ++ [⟨w.facts, t⟩], g.bad⟩
def Pw.fact (t : Tm) (w : Pw) : Pw := ⟨w.vars, w.facts ++ [t], w.ev, w.sym⟩
def Pw.set (i : Nat) (t : Tm) (w : Pw) : Pw := ⟨w.vars.set i t, w.facts, w.ev, w.sym⟩
def Pw.long (w : Pw) : Bool := decide (12 < w.facts.length)
def aY (w : Pw) (t : Tm) (g : Gs) : Gs := g.flag (!(aQ t w.vars).2)
def bt (w : Pw) (g : Gs) (t : Tm) : Gs := (aY w t g).goal w (aQ t w.vars).1
def iG (frm : Int) (w : Pw) (to : Int) (g : Gs) : Gs := ⟨g.paths ++ [⟨frm, to, w.facts, w.vars, w.ev⟩], g.conds, g.bad || decide (200 < g.paths.length + 1)⟩
def dw (frm : Int) (w : Pw) (to : Int) (facts : List Tm) (g : Gs) : Gs := iG frm w to (facts.foldl (bt w) g)
abbrev dp := Tm → Tm × Bool
def mq (la : dp) (w : Pw) (t : Tm) (g : Gs) : Gs := ((g.goal w t).flag (!(la t).2)).goal w (la t).1
def cr (la : dp) (w : Pw) (t : Tm) (g : Gs) : Gs := mq la w (aQ t w.vars).1 (aY w t g)
def pU (i : Nat) (w : Pw) : Pw := ⟨w.vars.set i (lA w.sym), w.facts, w.ev, w.sym + 1⟩
def bT (la : dp) (s : Sm) (w : Pw) (g : Gs) : Pw × Gs :=
  if s.kind = 2 then (w.set s.var.toNat (aQ s.sum w.vars).1, aY w s.sum g)
  else if s.kind = 3 then if w.sym = 10 then (w.set s.var.toNat ⟨0, []⟩, (cr la w s.index g).flag true) else (pU s.var.toNat w, cr la w s.index g)
  else if s.kind = 4 then (w, cr la w s.index g)
  else if s.kind = 5 then (⟨w.vars, w.facts, w.ev ++ [s.event], w.sym⟩, g)
  else if s.kind = 6 then (w.fact (aQ s.sum w.vars).1, ((aY w s.sum g).goal w (aQ s.sum w.vars).1).flag (w.fact (aQ s.sum w.vars).1).long)
  else (w, g)
def dC (yes no : Pw → Gs → Gs) (w : Pw) (t : Tm) (g : Gs) : Gs := no (w.fact (aR t).1) (yes (w.fact t) ((g.flag (!(aR t).2)).flag (w.fact t).long))
def eA (la : dp) (E : Pe) (frm : Int) : Nat → List Fr → Pw → Gs → Gs
  | 0, _, _, g => g
  | n + 1, r, w, g => if g.bad = true then g else match r with
    | [] => dw frm w (-1) E.post g
    | .lp k :: _ => dw frm w k (E.lf k) g
    | .st (.node s a [x, y]) :: r => if s.kind = 1 then eA la E frm n (.st x :: .st y :: r) w g
        else dC (eA la E frm n (.st x :: r)) (eA la E frm n (.st y :: r)) w (aQ s.sum w.vars).1 (aY w s.sum g)
    | .st (.node s a [x]) :: r => dw frm w (E.num a) s.facts g
    | .st (.node s a _) :: r => eA la E frm n r (bT la s w g).1 (bT la s w g).2
theorem cX {la : dp} {E : Pe} {frm : Int} {n : Nat} {r : List Fr} {w : Pw} {g : Gs} (h : g.bad = true) : eA la E frm n r w g = g := by
 cases n with
 | zero => rfl
 | succ n => unfold eA; rw [if_pos h]
theorem gz {la : dp} {E : Pe} {frm : Int} {n : Nat} {w : Pw} {g : Gs} (h : g.bad = false) : eA la E frm (n + 1) [] w g = dw frm w (-1) E.post g := by
 rw [eA, if_neg (by rw [h]; decide)]
theorem iS {la : dp} {E : Pe} {frm : Int} {n k : Nat} {r : List Fr} {w : Pw} {g : Gs} (h : g.bad = false) : eA la E frm (n + 1) (.lp k :: r) w g = dw frm w k (E.lf k) g := by
 rw [eA, if_neg (by rw [h]; decide)]
theorem gy {la : dp} {E : Pe} {frm : Int} {n : Nat} {r : List Fr} {w : Pw} {g : Gs} {s : Sm} {a : Int} {x y : Tr} (h : g.bad = false) (hk : s.kind = 1) : eA la E frm (n + 1) (.st (.node s a [x, y]) :: r) w g = eA la E frm n (.st x :: .st y :: r) w g := by
 rw [eA, if_neg (by rw [h]; decide)]; exact if_pos hk
theorem iU {la : dp} {E : Pe} {frm : Int} {n : Nat} {r : List Fr} {w : Pw} {g : Gs} {s : Sm} {a : Int} {x y : Tr} (h : g.bad = false) (hk : ¬ s.kind = 1) : eA la E frm (n + 1) (.st (.node s a [x, y]) :: r) w g = dC (eA la E frm n (.st x :: r)) (eA la E frm n (.st y :: r)) w (aQ s.sum w.vars).1 (aY w s.sum g) := by
 rw [eA, if_neg (by rw [h]; decide)]; exact if_neg hk
theorem iR {la : dp} {E : Pe} {frm : Int} {n : Nat} {r : List Fr} {w : Pw} {g : Gs} {s : Sm} {a : Int} {x : Tr} (h : g.bad = false) : eA la E frm (n + 1) (.st (.node s a [x]) :: r) w g = dw frm w (E.num a) s.facts g := by
 rw [eA, if_neg (by rw [h]; decide)]
theorem fo {la : dp} {E : Pe} {frm : Int} {n : Nat} {r : List Fr} {w : Pw} {g : Gs} {s : Sm} {a : Int} (h : g.bad = false) : eA la E frm (n + 1) (.st (.node s a []) :: r) w g = eA la E frm n r (bT la s w g).1 (bT la s w g).2 := by
 rw [eA, if_neg (by rw [h]; decide)] <;> simp
theorem i9 {la : dp} {E : Pe} {frm : Int} {n : Nat} {r : List Fr} {w : Pw} {g : Gs} {s : Sm} {a : Int} {x y z : Tr} {ks : List Tr} (h : g.bad = false) : eA la E frm (n + 1) (.st (.node s a (x :: y :: z :: ks)) :: r) w g = eA la E frm n r (bT la s w g).1 (bT la s w g).2 := by
 rw [eA, if_neg (by rw [h]; decide)] <;> simp
structure GEq (g h : Gs) : Prop where
  bad : g.bad = h.bad
  eq : g.bad = false → g = h
theorem GEq.refl {g : Gs} : GEq g g := ⟨rfl, fun _ => rfl⟩
theorem GEq.of {g h : Gs} (hb : g.bad = true) (hc : h.bad = true) : GEq g h := ⟨by rw [hb, hc], fun e => by rw [hb] at e; cases e⟩
theorem GEq.cases {g h : Gs} (e : GEq g h) : g = h ∨ (g.bad = true ∧ h.bad = true) := by
 cases hb : g.bad with
 | false => exact .inl (e.eq hb)
 | true => exact .inr ⟨Z, by rw [← e.bad, hb]⟩
theorem GEq.flag {g h : Gs} (e : GEq g h) {b : Bool} : GEq (g.flag b) (h.flag b) := by
 rcases e.cases with rfl | ⟨h1, h2⟩
 exact .refl
 exact .of (by simp [Gs.flag, h1]) (by simp [Gs.flag, h2])
theorem GEq.goal {g h : Gs} (e : GEq g h) {w : Pw} {t : Tm} : GEq (g.goal w t) (h.goal w t) := by
 rcases e.cases with rfl | ⟨h1, h2⟩
 exact .refl
 exact .of h1 h2
theorem rv {w : Pw} : ∀ {fs : List Tm} {g : Gs}, g.bad = true → (fs.foldl (bt w) g).bad = true
 | [], g, h => h
 | t :: fs, g, h => rv (fs := fs) (g := bt w g t) (by simp [bt, aY, Gs.goal, Gs.flag, h])
theorem xP {frm : Int} {w : Pw} {to : Int} {fs : List Tm} {g : Gs} (h : g.bad = true) : (dw frm w to fs g).bad = true := by simp [dw, iG, rv h]
structure LaEq (la lb : dp) : Prop where
  two : ∀ t, t.ok = true → (la t).2 = (lb t).2
  one : ∀ t, t.ok = true → (la t).2 = true → (la t).1 = (lb t).1
theorem fz {t : Tm} {vs : List Tm} : (aQ t vs).1.ok = true := by
 unfold aQ oo; split
 assumption
 rfl
theorem qq {la lb : dp} (hl : LaEq la lb) {w : Pw} {t : Tm} {g h : Gs} (e : GEq g h) : GEq (cr la w t g) (cr lb w t h) := by
 have h2 := hl.two _ (fz (t := t) (vs := w.vars))
 have h1 := hl.one _ (fz (t := t) (vs := w.vars))
 unfold cr mq
 cases hb : (la (aQ t w.vars).1).2 with
 | true =>
  rw [← h2, h1 hb, hb]
  exact (GEq.flag (GEq.goal (GEq.flag e))).goal
 | false =>
  rw [← h2, hb]
  exact .of (by simp [Gs.goal, Gs.flag]) (by simp [Gs.goal, Gs.flag])
theorem m9 {la lb : dp} (hl : LaEq la lb) {s : Sm} {w : Pw} {g h : Gs} (e : GEq g h) : (bT la s w g).1 = (bT lb s w h).1 ∧ GEq (bT la s w g).2 (bT lb s w h).2 := by
 unfold bT
 split
 exact ⟨Z, e.flag⟩
 split
 split
 exact ⟨Z, (qq hl e).flag⟩
 exact ⟨Z, qq hl e⟩
 split
 exact ⟨Z, qq hl e⟩
 split
 exact ⟨Z, e⟩
 split
 exact ⟨Z, e.flag.goal.flag⟩
 exact ⟨Z, e⟩
theorem iV {la lb : dp} (hl : LaEq la lb) {E : Pe} {frm : Int} : ∀ {n : Nat} {r : List Fr} {w : Pw} {g h : Gs}, GEq g h → GEq (eA la E frm n r w g) (eA lb E frm n r w h)
 | 0, r, w, g, h, e => e
 | n + 1, r, w, g, h, e => by
  rcases e.cases with rfl | ⟨h1, h2⟩
  cases hb : g.bad with
  | true => rw [cX hb, cX hb]; exact .refl
  | false =>
   match r with
   | [] => rw [gz hb, gz hb]; exact .refl
   | .lp k :: r => rw [iS hb, iS hb]; exact .refl
   | .st (.node s a []) :: r =>
    rw [fo hb, fo hb, (m9 hl (s := s) (w := w) e).1]
    exact iV hl (m9 hl e).2
   | .st (.node s a [x]) :: r => rw [iR hb, iR hb]; exact .refl
   | .st (.node s a [x, y]) :: r =>
    by_cases hk : s.kind = 1
    rw [gy hb hk, gy hb hk]; exact iV hl .refl
    rw [iU hb hk, iU hb hk]
    exact iV hl (iV hl .refl)
   | .st (.node s a (x :: y :: z :: ks)) :: r =>
    rw [i9 hb, i9 hb, (m9 hl (s := s) (w := w) e).1]
    exact iV hl (m9 hl e).2
  rw [cX h1, cX h2]; exact .of h1 h2
def Fr.nodes : Fr → Nat
  | .st t => t.nodes
  | .lp _ => 0
def aK : List Fr → Nat
  | [] => 0
  | f :: r => f.nodes + aK r
structure WOk (m : Nat) (w : Pw) : Prop where
  vars : w.vars.length = 4
  ok : ∀ t ∈ w.vars, t.ok = true
  facts : w.facts.length + m ≤ 64
  ev : w.ev.length + m ≤ 64
  sym : w.sym ≤ 10
theorem WOk.le {m k : Nat} {w : Pw} (h : WOk m w) (hk : k ≤ m) : WOk k w := ⟨h.vars, h.ok, by have := h.facts; omega, by have := h.ev; omega, h.sym⟩
theorem zg {k : Nat} (h : k < 10) : (lA k).ok = true := by
 have : ∀ k : Fin 10, (lA k).ok = true := by decide
 exact this ⟨k, h⟩
theorem vE {xs : List Tm} {i : Nat} {t : Tm} (h : ∀ t ∈ xs, t.ok = true) (ht : t.ok = true) : ∀ u ∈ xs.set i t, u.ok = true := fun u hu => by
 rcases List.mem_or_eq_of_mem_set hu with h1 | h1
 exact h u h1
 rw [h1]; exact ht
theorem WOk.set {m : Nat} {w : Pw} (h : WOk m w) {i : Nat} {t : Tm} (ht : t.ok = true) : WOk m (w.set i t) := ⟨by simp [Pw.set, h.vars], vE h.ok ht, h.facts, h.ev, h.sym⟩
theorem WOk.fact {m : Nat} {w : Pw} (h : WOk (m + 1) w) {t : Tm} : WOk m (w.fact t) := ⟨h.vars, h.ok, by have := h.facts; simp only [Pw.fact, ce, dj]; omega, by have := h.ev; simp only [Pw.fact]; omega, h.sym⟩
theorem WOk.leaf {m : Nat} {w : Pw} (h : WOk (m + 1) w) {la : dp} {s : Sm} {g : Gs} : WOk m (bT la s w g).1 := by
 have h0 := h.le (Nat.le_succ m)
 unfold bT
 split
 exact h0.set fz
 split
 split
 exact h0.set (by decide)
 have := h.sym
 exact ⟨by simp [pU, h.vars], vE h.ok (zg (by omega)), h0.facts, h0.ev, by simp only [pU]; omega⟩
 split
 exact h0
 split
 exact ⟨h.vars, h.ok, h0.facts, by have := h.ev; simp only [ce, dj]; omega, h.sym⟩
 split
 exact h.fact
 exact h0
structure GOk (n : Nat) (g : Gs) : Prop where
  paths : g.paths.length ≤ 201
  good : g.bad = false → g.paths.length ≤ 200
  conds : g.conds.length ≤ n
theorem GOk.le {m n : Nat} {g : Gs} (h : GOk m g) (hm : m ≤ n) : GOk n g := ⟨h.paths, h.good, Nat.le_trans h.conds hm⟩
theorem GOk.flag {n : Nat} {g : Gs} (h : GOk n g) {b : Bool} : GOk n (g.flag b) := ⟨h.paths, fun e => h.good (by simp [Gs.flag] at e; exact e.1), h.conds⟩
theorem GOk.goal {n : Nat} {g : Gs} (h : GOk n g) {w : Pw} {t : Tm} : GOk (n + 1) (g.goal w t) := ⟨h.paths, h.good, by have := h.conds; simp only [Gs.goal, ce, dj]; omega⟩
theorem tL {w : Pw} : ∀ {fs : List Tm} {n : Nat} {g : Gs}, GOk n g → GOk (n + fs.length) (fs.foldl (bt w) g)
 | [], n, g, h => h
 | t :: fs, n, g, h => by
  have := tL (fs := fs) (w := w) (h.flag.goal : GOk (n + 1) (bt w g t))
  exact this.le (by simp only [dL]; omega)
theorem f9 {w : Pw} : ∀ {fs : List Tm} {g : Gs}, (fs.foldl (bt w) g).paths = g.paths
 | [], g => rfl
 | t :: fs, g => f9 (fs := fs) (g := bt w g t)
theorem zC {frm : Int} {w : Pw} {to : Int} {fs : List Tm} {n : Nat} {g : Gs} (h : GOk n g) (hb : g.bad = false) : GOk (n + fs.length) (dw frm w to fs g) := by
 have h1 := tL (fs := fs) (w := w) h
 have h2 := h.good hb
 have h3 := congrArg List.length (f9 (fs := fs) (w := w) (g := g))
 refine ⟨?_, fun e => ?_, h1.conds⟩
 simp only [dw, iG, ce, dj]; omega
 simp only [dw, iG, Bool.or_eq_false_iff, decide_eq_false_iff_not] at e
 simp only [dw, iG, ce, dj]; omega
theorem qp {la : dp} {w : Pw} {t : Tm} {n : Nat} {g : Gs} (h : GOk n g) : GOk (n + 2) (cr la w t g) := h.flag.goal.flag.goal
theorem qj {la : dp} {s : Sm} {w : Pw} {n : Nat} {g : Gs} (h : GOk n g) : GOk (n + 2) (bT la s w g).2 := by
 unfold bT
 split
 exact h.flag.le (by omega)
 split
 split
 exact (qp h).flag
 exact qp h
 split
 exact qp h
 split
 exact h.le (by omega)
 split
 exact h.flag.goal.flag.le (by omega)
 exact h.le (by omega)
def ou (m : Nat) : Nat := 8 * (2 ^ (m / 2) * (m + 1))
theorem cj {m n : Nat} (h : m ≤ n) : ou m ≤ ou n := by
 unfold ou
 exact Nat.mul_le_mul_left _ (Nat.mul_le_mul (Nat.pow_le_pow_right (by decide) (Nat.div_le_div_right h)) (by omega))
theorem nI {m : Nat} : ou m + 2 ≤ ou (m + 1) := by
 unfold ou
 have h1 : 2 ^ (m / 2) ≤ 2 ^ ((m + 1) / 2) := Nat.pow_le_pow_right (by decide) (by omega)
 have h2 : 1 ≤ 2 ^ ((m + 1) / 2) := Nat.one_le_two_pow
 have h3 : 2 ^ (m / 2) * (m + 1) ≤ 2 ^ ((m + 1) / 2) * (m + 1) := Nat.mul_le_mul_right _ h1
 rw [show (2 : Nat) ^ ((m + 1) / 2) * (m + 1 + 1) = 2 ^ ((m + 1) / 2) * (m + 1) + 2 ^ ((m + 1) / 2) from Nat.mul_succ _ _]
 omega
theorem qr {m : Nat} : ou m + ou m ≤ ou (m + 2) := by
 unfold ou
 rw [show (m + 2) / 2 = m / 2 + 1 by omega, Nat.pow_succ]
 have h3 : 2 ^ (m / 2) * (m + 1) ≤ 2 ^ (m / 2) * (m + 2 + 1) := Nat.mul_le_mul_left _ (by omega)
 rw [show 2 ^ (m / 2) * 2 * (m + 2 + 1) = 2 * (2 ^ (m / 2) * (m + 2 + 1)) by rw [Nat.mul_right_comm, Nat.mul_comm]]
 omega
theorem pW : ou 30 = 8126464 := by decide
theorem sl {m : Nat} : 8 ≤ ou m := by
 have := cj (ct m)
 exact Nat.le_trans (by decide) this
def nh (t : Tm) : Tm × Bool := if t.ok = true then (t, true) else (⟨0, []⟩, false)
theorem jd {f : Tm → Int} : ∀ {ts : List Tm} {ms : List Int}, cO f (ts.take ms.length) ms = cO f ts ms
 | [], ms => by simp
 | t :: ts, [] => by simp [cO]
 | t :: ts, m :: ms => by simp only [dL, List.take_succ_cons, cO]; rw [jd]
theorem wo {t : Tm} {vs : List Tm} : nh (j9 (⟨t.c, []⟩ :: vs.take t.xs.length) (1 :: t.xs)) = aQ t vs := by
 have h1 : cO Tm.c (⟨t.c, []⟩ :: vs.take t.xs.length) (1 :: t.xs) = t.c + cO Tm.c vs t.xs := by rw [cO, jd, Int.one_mul]
 have h2 : cx (⟨t.c, []⟩ :: vs.take t.xs.length) (1 :: t.xs) = cx vs t.xs := by
  unfold cx
  apply List.map_congr_left
  intro k _
  rw [cO, jd]
  simp [qK]
 rw [j9, h1, h2]; rfl
theorem wn {t : Tm} {vs : List Tm} : oo (t.c + cO Tm.c (vs.take t.xs.length) (t.xs.take t.xs.length)) (cx (vs.take t.xs.length) (t.xs.take t.xs.length)) = aQ t vs := by
 have h2 : cx (vs.take t.xs.length) t.xs = cx vs t.xs := by
  unfold cx
  apply List.map_congr_left
  intro k _
  rw [jd]
 rw [List.take_length, jd, h2]; rfl
theorem zF {t : Tm} (h : t.ok = true) : (Tm.mk t.c []).ok = true := by
 have := (Small.of h).c
 simp [Tm.ok, this]
theorem sm {vs : List Tm} {n : Int} (h : eH vs n = true) : (∀ t ∈ vs, t.ok = true) ∧ (vs.length : Int) ≤ n := by
 unfold eH at h
 simpa using h
theorem xz {t : Tm} {vs : List Tm} {n : Nat} (ht : t.ok = true) (hv : eH vs 10 = true) : CtxOk (⟨t.c, []⟩ :: vs.take n) := by
 have h1 := sm hv
 refine ⟨fun u hu => ?_, by simp; omega⟩
 rcases List.mem_cons.1 hu with rfl | h
 exact zF ht
 exact h1.1 u (List.mem_of_mem_take h)
theorem xH {t : Tm} : aR t = nh (gk t) := sb
variable {t : Tm}
theorem Cq : MQ h1 h2 191 [cL t] [] (Plain (gn (nh t))) := by
 refine MC.data (jB 10 h1 h2 Tryz.func191 Z Z Z fun O hF => ?_)
 refine ah (jx O Z (jf [1] Z (jl O Z (js O Z (jn (ag (ah (js O Z (ap O Z Z Z Z (mU (t := t) h1 h2) (aa Z) Z Z Z Z Z (B0 := 6000) Z (js O Z (jf [6,3,2,1] Z (jn (ae O Z Z (fun hc6 => ?_) (fun hc6 => ?_))))))))))))))
 refine ah (js O Z (jf [7,3,2,1] Z (jo O Z (js O Z (jr ?_)))))
 refine ⟨.inl Z, _, am, _, Z, ?_⟩
 have hok : t.ok = false := by simpa using hc6
 rw [show nh t = (⟨0, []⟩, false) from if_neg (by rw [hok]; decide)]
 exact .tup (.cons (.agg (.cons .d (.cons .nils .nil))) (.cons (.c .d) .nil))
 refine aj (ah (js O Z (jf [8,3,2,1] Z (ar O Z Z Z Z (xl (t := t) h1 h2) (aa Z) Z Z Z Z (B0 := 10000) Z Z (jf [9,3,2,1] Z (jo O Z (js O Z (jr ?_))))))))
 refine ⟨.inl Z, _, am, _, Z, ?_⟩
 have hok : t.ok = true := by simpa using hc6
 rw [show nh t = (t, true) from if_pos hok]
 exact .tup (.cons (.agg (aE Z)) (.cons (.c .d) .nil))
theorem yB (ht : t.ok = true) : MQ h1 h2 162 [cL t] [] (Plain (gn (aR t))) := by
 refine MC.data (jB 13 h1 h2 Tryz.func162 Z Z Z fun O hF => ?_)
 refine ah (jx O Z (jf [1] Z (jl O Z (js O Z (jn (ag (ah (js O Z (ap O Z Z Z Z (mU (t := t) h1 h2) (aa Z) Z Z Z Z Z (B0 := 6000) Z (js O Z (jf [6,3,2,1] Z (jn (ae O Z Z (fun hc6 => ?_) (fun hc6 => ?_))))))))))))))
 exact absurd hc6 (by rw [ht]; decide)
 refine aj (ah (js O Z (jf [8,3,2,1] Z (ar O Z Z Z Z (xh (t := t) h1 h2 ht) (aa Z) Z Z Z Z (B0 := 10000) Z Z (jf [9,3,2,1] Z (ar O Z Z Z Z (Cq (t := gk t) h1 h2) (aa Z) Z Z Z Z (B0 := 11000) Z Z (j2 O Z Z (jf [12,11,3,2,1] Z (jo O Z (js O Z (jf [3,2,1] Z (jr ?_))))))))))))
 refine ⟨.inl Z, _, am, _, Z, ?_⟩
 rw [xH]
 exact .tup (.cons (.agg (aE Z)) (.cons (.c .d) .nil))
theorem m5 {k : Nat} : (List.replicate (k + 1) [D.int .i64 0])[0 + k]? = some [D.int .i64 0] := by simp
theorem mZ {k : Nat} : (List.replicate (k + 1) [D.int .i64 0]).set (0 + k) [D.int .i64 1] = ((List.replicate k 0 ++ [1] : List Int)).map fun n => [D.int .i64 n] := by
 rw [List.replicate_succ', Nat.zero_add, List.set_append_right _ _ (by simp)]; simp
theorem yD {k : Nat} (hk : k < 10) : MQ h1 h2 153 [eI k] [] (Plain (cL (lA k))) := by
 refine MC.data (jB 13 h1 h2 Tryz.func153 Z Z Z fun O hF => ?_)
 refine ah (jl O Z (au ?_))
 refine aV (js O Z (ji O Z (jf [5,2,0] Z (AOps.heap (ea O Z Z Z Z Z Z Z Z Z (by first | omega | (simp at *; omega)) (by first | omega | (simp at *; omega)) (by first | omega | (simp at *; omega)) (by first | omega | (dsimp only; omega) | (simp only [aT] at *; omega)) (by first | omega | (simp at *; omega)) Z Z Z) Z (au ?_)))))
 refine js O Z (jf [7,2,0] Z (jl O Z (au ?_)))
 refine jo O Z (au ?_)
 refine aV (j3 O Z Z Z (dk O Z Z (jf [11,3,7,2,0] Z (AOps.heap (bg (ex := [.int .i64 0]) (xs' := ((List.replicate k 0 ++ [1] : List Int)).map (fun n => [D.int .i64 n])) O Z Z Z Z Z Z Z Z Z Z Z Z Z Z m5 mZ) Z (au ?_)))))
 refine aV (js O Z (jo O Z (au ?_)))
 refine jr ?_
 refine ⟨.inl Z, _, am, _, Z, ?_⟩
 exact .v (.agg (.cons .d (.cons (.whole Z (by simp [lA])) .nil)))
theorem Cw {vs : List Tm} (hc : CtxOk vs) (hm : t.xs.all num = true) (hn : num t.c = true) (hle : t.xs.length ≤ vs.length) : MQ h1 h2 194 [ptr t.cells, bN vs] [] (Plain (gn (aQ t vs))) := by
 refine MC.data (jB 93 h1 h2 Tryz.func194 Z Z Z fun O hF => ?_)
 have hlc := hc.len
 have hnc := Db.1 hn
 have hl : t.xs.length ≤ L := by simpa [As.fact, A.fact, M.fact, D.fact, Ds.fact] using hF.1.2.1.1
 refine ah (jl O Z (js O Z (aV (j4 O Z Z Z Z (js O Z (jf [6,5,4,0,1] Z (aV (AOps.heap (ea O Z Z Z Z Z Z Z Z Z (by first | omega | (simp at *; omega)) (by first | omega | (simp at *; omega)) (by first | omega | (simp at *; omega)) (by first | omega | (dsimp only; omega) | (simp only [aT] at *; omega)) (by first | omega | (simp at *; omega)) Z Z Z) Z (js O Z (jn (ag (ah (js O Z (jn (ao (aq (X := Nat) (fun i => ⟨[(0, ptr t.cells), (1, bN vs), (4, .c (.pt 4 0 0)), (6, eI (t.c + cO Tm.c (vs.take i) (t.xs.take i))), (7, .c (.rs 14 0 10)), (8, eI i)], [(4, .box [.d (.int .i64 0), .d .nils]), (14, aX (cx (vs.take i) (t.xs.take i)))]⟩) (fun i => i ≤ t.xs.length) (fun i => t.xs.length - i) 0 (Ent.to ⟨Z, Z, Z, by show some (eI t.c) = _; simp [cO], Z, Z, trivial⟩ Z) ?_ (fun i hi => ?_)))))))))))))))))
 exact ct _
 refine ag (ah (j4 O Z Z Z Z (js O Z (cu O Z (js O Z (jf [21,0,1,4,6,7,8] Z (jn (ae O Z Z (fun hc21 => ?_) (fun hc21 => ?_)))))))))
 try simp only [aT] at hc21
 refine aj (ag (ao (ag (ah (j2 O Z Z (cu O Z (js O Z (jf [27,21,0,1,4,6,7,8] Z (jn (ae O Z Z (fun hc27 => ?_) (fun hc27 => ?_)))))))))))
 try simp only [aT] at hc27
 exact absurd hc27 (by omega)
 try simp only [aT] at hc27
 refine aj (ag ?_)
 have hi0 := hi
 have hts := Small.of (hc.get (show i < vs.length by omega))
 have hd1 := im (f := Tm.c) (ts := vs) (ms := t.xs) (fun t ht => (Small.of (hc.ok t ht)).c) hm (i := i) (by omega) hi
 have hd2 := fR (f := Tm.c) (ts := vs) (ms := t.xs) (i := i) (by omega) (by omega)
 have hmi : num (t.xs.getD i default) = true := by rw [ax (by omega)]; exact List.all_eq_true.1 hm _ (List.getElem_mem _)
 have hmu := dZ hmi hts.c
 refine gL O [_,_,_,_,_,_,_,_,_,_,_,_,_,_,_,_] [pn [] 0 0, pn [] 0 0, pn [1] 0 0, pn [1,2] 0 0, pn [1,2,3] 0 0, pn [] 0 0, pn (rg 1 5) 0 0, pn (rg 1 6) 0 0, pn [] 0 0, pn [] 0 0, pn [8,9] 0 0, pn [8,9,10] 0 0, pn (rg 8 4) 0 0, pn (rg 1 12) 0 0, pn (rg 0 14) 0 0, pn (rg 0 15) 0 0] [] [_] (kc O Z (kc O Z (kc O Z (kc O Z (kc O Z (kc O Z (ai (vN O Z) (kc O Z (kc O Z (kc O Z (ai (vN O Z) (kc O Z (kc O Z (ai (cz O Z Z (by omega) (by omega)) (ai (cz O Z Z (by omega) (by omega)) (kc O Z trivial)))))))))))))))) ?_
 refine jw [6,27,21,0,1,4,7,8] Z (b9 ?_)
 refine ah (js O Z (jn (ao (aq (X := Nat) (fun j => ⟨[(0, ptr t.cells), (1, bN vs), (4, .c (.pt 4 0 0)), (6, eI (t.c + cO Tm.c (vs.take i) (t.xs.take i) + t.xs.getD i default * (vs.getD i default).c)), (7, .c (.rs 14 0 10)), (8, eI i), (9, eI j)], [(4, .box [.d (.int .i64 0), .d .nils]), (14, aX (eF vs t.xs i j))]⟩) (fun j => j ≤ (vs.getD i default).xs.length) (fun j => (vs.getD i default).xs.length - j) 0 (((aw [4,14] (e' := [(0, _), (1, _), (4, _), (6, _), (7, _), (8, _), (9, _)]) Z Z ⟨Z, Z, Z, Z, Z, Z, Z, trivial⟩ Z)).trans (Ent.to ⟨Z, Z, Z, Z, Z, Z, Z, trivial⟩ (by rw [l3]; rfl))) ?_ (fun j hi => ?_)))))
 exact ct _
 refine ag (ah (j3 O Z Z Z (iM O Z Z (j2 O Z Z (cu O Z (js O Z (jf [63,0,1,4,6,7,8,9] Z (jn (ae O Z Z (fun hc63 => ?_) (fun hc63 => ?_))))))))))
 try simp only [aT] at hc63
 refine aj (ag (ao ?_))
 have hjl : j < 10 := by have := lK (hc.get (show i < vs.length by omega)); omega
 have hpj := kW (ts := vs) (ms := t.xs) (i := i) hjl
 have hps := l4 (ts := vs) (ms := t.xs) (i := i) hjl
 have hpl := dI (ts := vs) (ms := t.xs) (i := i) (j := j)
 have hd3 := im (f := qK j) (ts := vs) (ms := t.xs) (fun t ht => (Small.of (hc.ok t ht)).get j) hm (i := i) (by omega) (by omega)
 have hmx := dZ hmi (hts.get j)
 rw [show (vs.getD i default).xs.getD j 0 = (vs.getD i default).xs.getD j default from Z] at hmx
 refine gL O [_,_,_,_,_,_,_,_,_,_,_,_,_,_,_,_,_,_,_,_,_,_,_] [pn [] 0 0, pn [] 0 0, pn [0,1] 0 0, pn [0,1,2] 0 0, pn [] 0 0, pn [4] 0 0, pn [4,5] 0 0, pn [4,5,6] 0 0, pn [] 0 0, pn (rg 4 5) 0 0, pn (rg 4 6) 0 0, pn [] 0 0, pn [] 0 0, pn [11,12] 0 0, pn [11,12,13] 0 0, pn (rg 11 4) 0 0, pn [] 0 0, pn (rg 11 6) 0 0, pn (rg 11 7) 0 0, pn (rg 4 15) 0 0, pn (rg 0 20) 0 0, pn (rg 0 21) 0 0, pe (rg 0 22) 0] [22] [_,_] (kc O Z (kc O Z (ai (vI O Z Z) (ai (aS O (ex := [.int .i64 ((eF vs t.xs i j).getD j default)]) Z Z Z Z (t2 (by omega)) Z) (kc O Z (kc O Z (kc O Z (kc O Z (kc O Z (ai (vN O Z) (kc O Z (kc O Z (kc O Z (ai (vN O Z) (kc O Z (kc O Z (kc O Z (ai (vN O Z) (kc O Z (ai (cz O Z Z (by omega) (by omega)) (ai (cz O Z Z (by omega) (by omega)) (ai (vI O Z Z) (ai (dt (ex := [.int .i64 ((eF vs t.xs i j).getD j default)]) (xs' := (eF vs t.xs i (j + 1)).map (fun n => [D.int .i64 n])) O Z Z Z Z Z Z Z Z Z Z Z Z Z Z Z (t2 (by omega)) (by rw [← hps, List.map_set]; simp only [Int.toNat_natCast, Nat.zero_add]; rfl) Z) trivial))))))))))))))))))))))) ?_
 refine jw [63,0,1,4,6,7,8,9] Z (b9 ?_)
 refine ak (js O Z (ji O Z (js O Z (jf [9,63,0,1,4,6,7,8] Z (jn ?_)))))
 refine ⟨j + 1, Ent.to ⟨Z, Z, Z, Z, Z, Z, Z, trivial⟩ Z, by omega, by omega⟩
 try simp only [aT] at hc63
 refine aO (ak (js O Z (ji O Z (js O Z (jf [8,63,0,1,4,6,7,9] Z (jn ?_))))))
 refine ⟨i + 1, ((aw [4,14] (e' := [(0, _), (1, _), (4, _), (6, _), (7, _), (8, _)]) Z Z ⟨Z, Z, Z, Z, Z, Z, trivial⟩ Z)).trans (Ent.to ⟨Z, Z, Z, by rw [hd2, ← Int.add_assoc]; rfl, Z, Z, trivial⟩ ?_), by omega, by omega⟩
 rw [← nz (j := j) (by omega) (by omega) (by omega)]; rfl
 try simp only [aT] at hc21
 refine aO (ah ?_)
 obtain rfl : i = t.xs.length := by omega
 have hcl := iy (ts := vs.take t.xs.length) (ms := t.xs.take t.xs.length)
 refine ay (Ent.freeze 14 (e' := [(7, _), (6, _), (4, _)]) Z (.cons Z (.c (.row Z (by rw [bz, hcl]))) (fe [6,4] Z)) (.cons Z (.box (fk Z)) (.skip .nil))) ?_
 refine j2 O Z Z (ar O Z Z Z Z (qL (c := t.c + cO Tm.c (vs.take t.xs.length) (t.xs.take t.xs.length)) (xs := cx (vs.take t.xs.length) (t.xs.take t.xs.length)) h1 h2) (aa Z) Z Z Z Z (B0 := 91000) Z Z (j2 O Z Z (jf [92,91,7,6,4] Z (jo O Z (js O Z (jf [5,7,6,4] Z (jr ?_)))))))
 refine ⟨.inl Z, _, am, _, Z, ?_⟩
 rw [← wn]
 exact .tup (.cons (.agg (aE Z)) (.cons (.c .d) .nil))
end Go.Al
