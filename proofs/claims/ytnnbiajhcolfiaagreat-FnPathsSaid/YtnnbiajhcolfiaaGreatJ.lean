/- Paths, in plain Lean; bW with symbols replaced. -/
import Derived.Test.YtnnbiajhcolfiaaGreatH
import Derived.Test.YtnnbiajhcolfiaaGreatC
import Derived.Test.YtnnbiajhcolfiaaGreatE
set_option linter.unusedVariables false
set_option linter.unusedSimpArgs false
set_option maxRecDepth 10000
set_option maxHeartbeats 4000000
open Go.Proofs
namespace Go.Al
variable {L : Nat} (h1 : 4096 ≤ L) (h2 : L ≤ 1073741824)
structure In where
  op : Int
  a : Int
  deriving Inhabited, DecidableEq
structure Pt where
  k : Int
  fs : List Tm
  deriving Inhabited, DecidableEq
structure An where
  pre : List Tm
  post : List Tm
  code : List In
  pts : List Pt
  deriving Inhabited, DecidableEq
def pG (x : In) : Bool :=
  if x.op = 0 ∨ x.op = 4 then num x.a else if x.op = 1 ∨ x.op = 2 then eL 0 3 x.a else if x.op = 5 ∨ x.op = 6 then eL 0 79 x.a else if x.op = 9 then eL 0 3 x.a
  else if x.op = 3 ∨ x.op = 7 ∨ x.op = 8 ∨ x.op = 10 ∨ x.op = 11 then decide (x.a = 0) else false
def vT (x : In) : Bool := decide (x.op = 5) || decide (x.op = 6)
def Ae (ps : List Pt) (k : Int) : Bool := ps.any fun p => decide (p.k = k)
def yQ (c : List In) (k : Int) : Bool := c.any fun x => vT x && decide (x.a = k)
def plB (c : List In) (ps : List Pt) (k : Int) : Bool := yQ c k || Ae ps k
def x2 (pl : Int → Bool) : Nat → List In → List In
  | _, [] => []
  | k, x :: r => if pl (k : Int) = true then [] else x :: x2 pl (k + 1) r
def sgt (c : List In) (ps : List Pt) (k : Nat) : List In := match c.drop k with
  | [] => []
  | x :: r => x :: x2 (plB c ps) (k + 1) r
def n1 : List Int → List In → Bool
  | [], _ => true
  | _ :: _, [] => false
  | o :: os, x :: s => decide (x.op = o) && n1 os s
def sR (x : In) : Bool := decide (x.op = 1) || decide (x.op = 3) || decide (x.op = 7)
def yK (s : List In) : Nat × List In :=
  let x := s.getD 0 default
  let y := s.getD 1 default
  if n1 [0,4] s = true ∧ num (x.a * y.a) = true then (2, [⟨0, x.a * y.a⟩])
  else if n1 [0,0,3] s = true ∧ num (x.a + y.a) = true then (3, [⟨0, x.a + y.a⟩])
  else if n1 [0,1,3] s = true ∧ x.a = 0 then (3, [y])
  else if n1 [0,1,4,3] s = true ∧ x.a = 0 then (4, [y, s.getD 2 default])
  else if (sR x = true ∨ x.op = 4) ∧ n1 [x.op, 0, 3] s = true ∧ y.a = 0 then (3, [x])
  else if sR x = true ∧ n1 [x.op, 4] s = true ∧ y.a = 1 then (2, [x])
  else if n1 [4,4] s = true ∧ num (x.a * y.a) = true then (2, [⟨4, x.a * y.a⟩])
  else (0, [])
def Ad (k less : Int) (x : In) : In := if vT x = true ∧ k < x.a then ⟨x.op, x.a - less⟩ else x
def sPt (k less : Int) (p : Pt) : Pt := if k < p.k then ⟨p.k - less, p.fs⟩ else p
def Ac (a : An) (k n : Nat) (by' : List In) : An :=
  ⟨a.pre, a.post, (a.code.take k ++ by' ++ a.code.drop (k + n)).map (Ad k ((n : Int) - by'.length)), a.pts.map (sPt k ((n : Int) - by'.length))⟩
abbrev qy (a : An) (k : Nat) : Nat × List In := yK (sgt a.code a.pts k)
def vg (a : An) : Nat → Nat → Option An
  | 0, _ => none
  | f + 1, k => if 0 < (qy a k).1 then some (Ac a k (qy a k).1 (qy a k).2) else vg a f (k + 1)
def yR (a : An) : Option An := vg a a.code.length 0
def vm : Nat → An → An
  | 0, a => a
  | f + 1, a => match yR a with
    | none => a
    | some b => vm f b
def qC (a : An) : An := vm a.code.length a
structure AOk (a : An) : Prop where
  code : ∀ x ∈ a.code, pG x = true
  pts : ∀ p ∈ a.pts, 0 ≤ p.k ∧ p.k ≤ 79
  len : a.code.length ≤ 80
  np : a.pts.length ≤ 8
  npre : a.pre.length ≤ 6
  npost : a.post.length ≤ 6
structure RuOk (s : List In) (r : Nat × List In) : Prop where
  n : r.1 ≤ s.length
  lt : r.2.length < r.1
  one : 1 ≤ r.2.length
  two : r.2.length ≤ 2
  jmp : ∀ x ∈ r.2, vT x = false
  ok : (∀ x ∈ s, pG x = true) → ∀ x ∈ r.2, pG x = true
structure Fo (a out : An) (k : Nat) : Prop where
  le : k ≤ out.code.length
  eq : qC out = qC a
  ok : AOk out
  no : ∀ j, j < k → (qy out j).1 = 0
structure Gn (a out : An) : Prop where
  eq : qC out = qC a
  ok : AOk out
structure Cs where
  code : List In
  pts : List Pt
  fr : List Int
  to : List Int
mutual
/-- Each element has a place of its own, and behind it the statements that it c5. -/
def Tr.cok (n : Nat) : Tr → Prop
  | .node s a ks => (0 ≤ a ∧ a < n) ∧ (s.sum.term = true ∧ s.index.term = true) ∧ (aW s = true ∧ (ks.length : Int) = aN s.kind) ∧ Trs.cok n ks
def Trs.cok (n : Nat) : List Tr → Prop
  | [] => True
  | t :: r => t.cok n ∧ Trs.cok n r
end
mutual
def Tr.nodes : Tr → Nat
  | .node _ _ ks => 1 + Trs.nodes ks
def Trs.nodes : List Tr → Nat
  | [] => 0
  | t :: r => t.nodes + Trs.nodes r
end
structure CsLe (m : Nat) (c d : Cs) : Prop where
  code : d.code.length ≤ c.code.length + 30 * m
  pts : d.pts.length ≤ c.pts.length + m
  fr : d.fr.length = c.fr.length
  to : d.to.length = c.to.length
  ge : c.code.length ≤ d.code.length
theorem oD {n : Nat} {f : Nat → Option (Tr × Nat)} (hf : ∀ k t k', f k = some (t, k') → k < k' ∧ t.cok n ∧ t.nodes = k' - k) : ∀ {q k ts k'}, ci f q k = some (ts, k') → Trs.cok n ts ∧ k ≤ k' ∧ Trs.nodes ts = k' - k
 | 0, k, ts, k', h => by
  simp only [ci, eg, Prod.mk.injEq] at h
  obtain ⟨rfl, rfl⟩ := h
  exact ⟨trivial, cN _, by simp [Trs.nodes]⟩
 | q + 1, k, ts, k', h => by
  unfold ci at h
  cases hx : f k with
  | none => rw [hx] at h; cases h
  | some x =>
   obtain ⟨t, k1⟩ := x
   rw [hx] at h
   simp only [Option.map_eq_some_iff] at h
   obtain ⟨⟨ts1, k2⟩, h1, h2⟩ := h
   simp only [Prod.mk.injEq] at h2
   obtain ⟨rfl, rfl⟩ := h2
   have h3 := hf k t k1 hx
   have h4 := oD hf h1
   exact ⟨⟨h3.2.1, h4.1⟩, by omega, by simp only [Trs.nodes]; omega⟩
theorem oi {body : List Sm} : ∀ {m k : Nat} {t : Tr} {k' : Nat}, cb m body k = some (t, k') → k < k' ∧ t.cok body.length ∧ t.nodes = k' - k
 | 0, _, _, _, h => by cases h
 | m + 1, k, t, k', h => by
  have hlt := fw h
  unfold cb at h
  split at h
  cases h
  split at h
  cases h
  rename_i h1 h2
  simp only [Option.map_eq_some_iff] at h
  obtain ⟨⟨ts, k2⟩, h3, h4⟩ := h
  simp only [Prod.mk.injEq] at h4
  obtain ⟨rfl, rfl⟩ := h4
  have h5 := oD (fun k t k' h => oi h) h3
  have h8 := (jM (fun k t k' h => jG h) h3).1
  have hs : aW (body.getD k default) = true := by
   cases hb : aW (body.getD k default) with
   | true => rfl
   | false => unfold bQ at h2; rw [hb] at h2; exact absurd (by rw [if_neg (by decide)]; decide) h2
  refine ⟨by omega, ⟨by omega, cn hs, ⟨hs, ?_⟩, h5.1⟩, by simp only [Tr.nodes]; omega⟩
  rw [h8]
  unfold bQ
  rw [if_pos hs]
  have := (b0 (body.getD k default).kind).1
  omega
structure Pth where
  frm : Int
  to : Int
  facts : List Tm
  ends : List Tm
  ev : List Int
abbrev Pth.cells (p : Pth) : List D := [.int .i64 p.frm, .int .i64 p.to, e6 p.facts, e6 p.ends, cG p.ev]
structure Pw where
  vars : List Tm
  facts : List Tm
  ev : List Int
  sym : Nat
structure Gs where
  paths : List Pth
  conds : List Sq
  bad : Bool
inductive Fr where
  | st (t : Tr)
  | lp (k : Nat)
structure Pe where
  post : List Tm
  lf : Nat → List Tm
  num : Int → Nat
def aD (t : Tm) (vs : List Tm) : Tm × Bool := me (t.c + bS Tm.c vs t.xs) (cj vs t.xs)
def gz (k : Nat) : Tm := ⟨0, List.replicate k 0 ++ [1]⟩
def Gs.flag (b : Bool) (g : Gs) : Gs := ⟨g.paths, g.conds, g.bad || b⟩
def Gs.goal (w : Pw) (t : Tm) (g : Gs) : Gs := ⟨g.paths, g.conds ++ [⟨w.facts, t⟩], g.bad⟩
def Pw.fact (t : Tm) (w : Pw) : Pw := ⟨w.vars, w.facts ++ [t], w.ev, w.sym⟩
def Pw.set (i : Nat) (t : Tm) (w : Pw) : Pw := ⟨w.vars.set i t, w.facts, w.ev, w.sym⟩
def Pw.long (w : Pw) : Bool := decide (12 < w.facts.length)
def aR (w : Pw) (t : Tm) (g : Gs) : Gs := g.flag (!(aD t w.vars).2)
def bl (w : Pw) (g : Gs) (t : Tm) : Gs := (aR w t g).goal w (aD t w.vars).1
def fL (frm : Int) (w : Pw) (to : Int) (g : Gs) : Gs := ⟨g.paths ++ [⟨frm, to, w.facts, w.vars, w.ev⟩], g.conds, g.bad || decide (200 < g.paths.length + 1)⟩
def cV (frm : Int) (w : Pw) (to : Int) (facts : List Tm) (g : Gs) : Gs := fL frm w to (facts.foldl (bl w) g)
abbrev cF := Tm → Tm × Bool
def kz (la : cF) (w : Pw) (t : Tm) (g : Gs) : Gs := ((g.goal w t).flag (!(la t).2)).goal w (la t).1
def cd (la : cF) (w : Pw) (t : Tm) (g : Gs) : Gs := kz la w (aD t w.vars).1 (aR w t g)
def nf (i : Nat) (w : Pw) : Pw := ⟨w.vars.set i (gz w.sym), w.facts, w.ev, w.sym + 1⟩
def bo (la : cF) (s : Sm) (w : Pw) (g : Gs) : Pw × Gs :=
  if s.kind = 2 then (w.set s.var.toNat (aD s.sum w.vars).1, aR w s.sum g)
  else if s.kind = 3 then if w.sym = 10 then (w.set s.var.toNat ⟨0, []⟩, (cd la w s.index g).flag true) else (nf s.var.toNat w, cd la w s.index g)
  else if s.kind = 4 then (w, cd la w s.index g)
  else if s.kind = 5 then (⟨w.vars, w.facts, w.ev ++ [s.event], w.sym⟩, g)
  else if s.kind = 6 then (w.fact (aD s.sum w.vars).1, ((aR w s.sum g).goal w (aD s.sum w.vars).1).flag (w.fact (aD s.sum w.vars).1).long)
  else (w, g)
def c8 (yes no : Pw → Gs → Gs) (w : Pw) (t : Tm) (g : Gs) : Gs := no (w.fact (bu t).1) (yes (w.fact t) ((g.flag (!(bu t).2)).flag (w.fact t).long))
def dx (la : cF) (E : Pe) (frm : Int) : Nat → List Fr → Pw → Gs → Gs
  | 0, _, _, g => g
  | n + 1, r, w, g => if g.bad = true then g else match r with
    | [] => cV frm w (-1) E.post g
    | .lp k :: _ => cV frm w k (E.lf k) g
    | .st (.node s a [x, y]) :: r => if s.kind = 1 then dx la E frm n (.st x :: .st y :: r) w g
        else c8 (dx la E frm n (.st x :: r)) (dx la E frm n (.st y :: r)) w (aD s.sum w.vars).1 (aR w s.sum g)
    | .st (.node s a [x]) :: r => cV frm w (E.num a) s.facts g
    | .st (.node s a _) :: r => dx la E frm n r (bo la s w g).1 (bo la s w g).2
theorem bX {la : cF} {E : Pe} {frm : Int} {n : Nat} {r : List Fr} {w : Pw} {g : Gs} (h : g.bad = true) : dx la E frm n r w g = g := by
 cases n with
 | zero => rfl
 | succ n => unfold dx; rw [if_pos h]
theorem el {la : cF} {E : Pe} {frm : Int} {n : Nat} {w : Pw} {g : Gs} (h : g.bad = false) : dx la E frm (n + 1) [] w g = cV frm w (-1) E.post g := by
 rw [dx, if_neg (by rw [h]; decide)]
theorem gK {la : cF} {E : Pe} {frm : Int} {n k : Nat} {r : List Fr} {w : Pw} {g : Gs} (h : g.bad = false) : dx la E frm (n + 1) (.lp k :: r) w g = cV frm w k (E.lf k) g := by
 rw [dx, if_neg (by rw [h]; decide)]
theorem ej {la : cF} {E : Pe} {frm : Int} {n : Nat} {r : List Fr} {w : Pw} {g : Gs} {s : Sm} {a : Int} {x y : Tr} (h : g.bad = false) (hk : s.kind = 1) : dx la E frm (n + 1) (.st (.node s a [x, y]) :: r) w g = dx la E frm n (.st x :: .st y :: r) w g := by
 rw [dx, if_neg (by rw [h]; decide)]; exact if_pos hk
theorem fX {la : cF} {E : Pe} {frm : Int} {n : Nat} {r : List Fr} {w : Pw} {g : Gs} {s : Sm} {a : Int} {x y : Tr} (h : g.bad = false) (hk : ¬ s.kind = 1) : dx la E frm (n + 1) (.st (.node s a [x, y]) :: r) w g = c8 (dx la E frm n (.st x :: r)) (dx la E frm n (.st y :: r)) w (aD s.sum w.vars).1 (aR w s.sum g) := by
 rw [dx, if_neg (by rw [h]; decide)]; exact if_neg hk
theorem gJ {la : cF} {E : Pe} {frm : Int} {n : Nat} {r : List Fr} {w : Pw} {g : Gs} {s : Sm} {a : Int} {x : Tr} (h : g.bad = false) : dx la E frm (n + 1) (.st (.node s a [x]) :: r) w g = cV frm w (E.num a) s.facts g := by
 rw [dx, if_neg (by rw [h]; decide)]
theorem dB {la : cF} {E : Pe} {frm : Int} {n : Nat} {r : List Fr} {w : Pw} {g : Gs} {s : Sm} {a : Int} (h : g.bad = false) : dx la E frm (n + 1) (.st (.node s a []) :: r) w g = dx la E frm n r (bo la s w g).1 (bo la s w g).2 := by
 rw [dx, if_neg (by rw [h]; decide)] <;> simp
theorem gQ {la : cF} {E : Pe} {frm : Int} {n : Nat} {r : List Fr} {w : Pw} {g : Gs} {s : Sm} {a : Int} {x y z : Tr} {ks : List Tr} (h : g.bad = false) : dx la E frm (n + 1) (.st (.node s a (x :: y :: z :: ks)) :: r) w g = dx la E frm n r (bo la s w g).1 (bo la s w g).2 := by
 rw [dx, if_neg (by rw [h]; decide)] <;> simp
structure GEq (g h : Gs) : Prop where
  bad : g.bad = h.bad
  eq : g.bad = false → g = h
theorem GEq.refl {g : Gs} : GEq g g := ⟨rfl, fun _ => rfl⟩
theorem GEq.of {g h : Gs} (hb : g.bad = true) (hc : h.bad = true) : GEq g h := ⟨by rw [hb, hc], fun e => by rw [hb] at e; cases e⟩
theorem GEq.cases {g h : Gs} (e : GEq g h) : g = h ∨ (g.bad = true ∧ h.bad = true) := by
 cases hb : g.bad with
 | false => exact .inl (e.eq hb)
 | true => exact .inr ⟨Z, by rw [← e.bad, hb]⟩
theorem GEq.flag {g h : Gs} (e : GEq g h) {b : Bool} : GEq (g.flag b) (h.flag b) := by
 rcases e.cases with rfl | ⟨h1, h2⟩
 exact .refl
 exact .of (by simp [Gs.flag, h1]) (by simp [Gs.flag, h2])
theorem GEq.goal {g h : Gs} (e : GEq g h) {w : Pw} {t : Tm} : GEq (g.goal w t) (h.goal w t) := by
 rcases e.cases with rfl | ⟨h1, h2⟩
 exact .refl
 exact .of h1 h2
theorem oJ {w : Pw} : ∀ {fs : List Tm} {g : Gs}, g.bad = true → (fs.foldl (bl w) g).bad = true
 | [], g, h => h
 | t :: fs, g, h => oJ (fs := fs) (g := bl w g t) (by simp [bl, aR, Gs.goal, Gs.flag, h])
theorem uL {frm : Int} {w : Pw} {to : Int} {fs : List Tm} {g : Gs} (h : g.bad = true) : (cV frm w to fs g).bad = true := by simp [cV, fL, oJ h]
structure LaEq (la lb : cF) : Prop where
  two : ∀ t, t.ok = true → (la t).2 = (lb t).2
  one : ∀ t, t.ok = true → (la t).2 = true → (la t).1 = (lb t).1
theorem dN {t : Tm} {vs : List Tm} : (aD t vs).1.ok = true := by
 unfold aD me; split
 assumption
 rfl
theorem nK {la lb : cF} (hl : LaEq la lb) {w : Pw} {t : Tm} {g h : Gs} (e : GEq g h) : GEq (cd la w t g) (cd lb w t h) := by
 have h2 := hl.two _ (dN (t := t) (vs := w.vars))
 have h1 := hl.one _ (dN (t := t) (vs := w.vars))
 unfold cd kz
 cases hb : (la (aD t w.vars).1).2 with
 | true =>
  rw [← h2, h1 hb, hb]
  exact (GEq.flag (GEq.goal (GEq.flag e))).goal
 | false =>
  rw [← h2, hb]
  exact .of (by simp [Gs.goal, Gs.flag]) (by simp [Gs.goal, Gs.flag])
theorem lh {la lb : cF} (hl : LaEq la lb) {s : Sm} {w : Pw} {g h : Gs} (e : GEq g h) : (bo la s w g).1 = (bo lb s w h).1 ∧ GEq (bo la s w g).2 (bo lb s w h).2 := by
 unfold bo
 split
 exact ⟨Z, e.flag⟩
 split
 split
 exact ⟨Z, (nK hl e).flag⟩
 exact ⟨Z, nK hl e⟩
 split
 exact ⟨Z, nK hl e⟩
 split
 exact ⟨Z, e⟩
 split
 exact ⟨Z, e.flag.goal.flag⟩
 exact ⟨Z, e⟩
theorem gL {la lb : cF} (hl : LaEq la lb) {E : Pe} {frm : Int} : ∀ {n : Nat} {r : List Fr} {w : Pw} {g h : Gs}, GEq g h → GEq (dx la E frm n r w g) (dx lb E frm n r w h)
 | 0, r, w, g, h, e => e
 | n + 1, r, w, g, h, e => by
  rcases e.cases with rfl | ⟨h1, h2⟩
  cases hb : g.bad with
  | true => rw [bX hb, bX hb]; exact .refl
  | false =>
   match r with
   | [] => rw [el hb, el hb]; exact .refl
   | .lp k :: r => rw [gK hb, gK hb]; exact .refl
   | .st (.node s a []) :: r =>
    rw [dB hb, dB hb, (lh hl (s := s) (w := w) e).1]
    exact gL hl (lh hl e).2
   | .st (.node s a [x]) :: r => rw [gJ hb, gJ hb]; exact .refl
   | .st (.node s a [x, y]) :: r =>
    by_cases hk : s.kind = 1
    rw [ej hb hk, ej hb hk]; exact gL hl .refl
    rw [fX hb hk, fX hb hk]
    exact gL hl (gL hl .refl)
   | .st (.node s a (x :: y :: z :: ks)) :: r =>
    rw [gQ hb, gQ hb, (lh hl (s := s) (w := w) e).1]
    exact gL hl (lh hl e).2
  rw [bX h1, bX h2]; exact .of h1 h2
def Fr.nodes : Fr → Nat
  | .st t => t.nodes
  | .lp _ => 0
def az : List Fr → Nat
  | [] => 0
  | f :: r => f.nodes + az r
structure WOk (m : Nat) (w : Pw) : Prop where
  vars : w.vars.length = 4
  ok : ∀ t ∈ w.vars, t.ok = true
  facts : w.facts.length + m ≤ 64
  ev : w.ev.length + m ≤ 64
  sym : w.sym ≤ 10
theorem WOk.le {m k : Nat} {w : Pw} (h : WOk m w) (hk : k ≤ m) : WOk k w := ⟨h.vars, h.ok, by have := h.facts; omega, by have := h.ev; omega, h.sym⟩
theorem wd {k : Nat} (h : k < 10) : (gz k).ok = true := by
 have : ∀ k : Fin 10, (gz k).ok = true := by decide
 exact this ⟨k, h⟩
theorem pD {xs : List Tm} {i : Nat} {t : Tm} (h : ∀ t ∈ xs, t.ok = true) (ht : t.ok = true) : ∀ u ∈ xs.set i t, u.ok = true := fun u hu => by
 rcases List.mem_or_eq_of_mem_set hu with h1 | h1
 exact h u h1
 rw [h1]; exact ht
theorem WOk.set {m : Nat} {w : Pw} (h : WOk m w) {i : Nat} {t : Tm} (ht : t.ok = true) : WOk m (w.set i t) := ⟨by simp [Pw.set, h.vars], pD h.ok ht, h.facts, h.ev, h.sym⟩
theorem WOk.fact {m : Nat} {w : Pw} (h : WOk (m + 1) w) {t : Tm} : WOk m (w.fact t) := ⟨h.vars, h.ok, by have := h.facts; simp only [Pw.fact, de, gt]; omega, by have := h.ev; simp only [Pw.fact]; omega, h.sym⟩
theorem WOk.leaf {m : Nat} {w : Pw} (h : WOk (m + 1) w) {la : cF} {s : Sm} {g : Gs} : WOk m (bo la s w g).1 := by
 have h0 := h.le (Nat.le_succ m)
 unfold bo
 split
 exact h0.set dN
 split
 split
 exact h0.set (by decide)
 have := h.sym
 exact ⟨by simp [nf, h.vars], pD h.ok (wd (by omega)), h0.facts, h0.ev, by simp only [nf]; omega⟩
 split
 exact h0
 split
 exact ⟨h.vars, h.ok, h0.facts, by have := h.ev; simp only [de, gt]; omega, h.sym⟩
 split
 exact h.fact
 exact h0
structure GOk (n : Nat) (g : Gs) : Prop where
  paths : g.paths.length ≤ 201
  good : g.bad = false → g.paths.length ≤ 200
  conds : g.conds.length ≤ n
theorem GOk.le {m n : Nat} {g : Gs} (h : GOk m g) (hm : m ≤ n) : GOk n g := ⟨h.paths, h.good, Nat.le_trans h.conds hm⟩
theorem GOk.flag {n : Nat} {g : Gs} (h : GOk n g) {b : Bool} : GOk n (g.flag b) := ⟨h.paths, fun e => h.good (by simp [Gs.flag] at e; exact e.1), h.conds⟩
theorem GOk.goal {n : Nat} {g : Gs} (h : GOk n g) {w : Pw} {t : Tm} : GOk (n + 1) (g.goal w t) := ⟨h.paths, h.good, by have := h.conds; simp only [Gs.goal, de, gt]; omega⟩
theorem qX {w : Pw} : ∀ {fs : List Tm} {n : Nat} {g : Gs}, GOk n g → GOk (n + fs.length) (fs.foldl (bl w) g)
 | [], n, g, h => h
 | t :: fs, n, g, h => by
  have := qX (fs := fs) (w := w) (h.flag.goal : GOk (n + 1) (bl w g t))
  exact this.le (by simp only [iX]; omega)
theorem dG {w : Pw} : ∀ {fs : List Tm} {g : Gs}, (fs.foldl (bl w) g).paths = g.paths
 | [], g => rfl
 | t :: fs, g => dG (fs := fs) (g := bl w g t)
theorem wy {frm : Int} {w : Pw} {to : Int} {fs : List Tm} {n : Nat} {g : Gs} (h : GOk n g) (hb : g.bad = false) : GOk (n + fs.length) (cV frm w to fs g) := by
 have h1 := qX (fs := fs) (w := w) h
 have h2 := h.good hb
 have h3 := congrArg List.length (dG (fs := fs) (w := w) (g := g))
 refine ⟨?_, fun e => ?_, h1.conds⟩
 simp only [cV, fL, de, gt]; omega
 simp only [cV, fL, Bool.or_eq_false_iff, decide_eq_false_iff_not] at e
 simp only [cV, fL, de, gt]; omega
theorem nJ {la : cF} {w : Pw} {t : Tm} {n : Nat} {g : Gs} (h : GOk n g) : GOk (n + 2) (cd la w t g) := h.flag.goal.flag.goal
theorem nE {la : cF} {s : Sm} {w : Pw} {n : Nat} {g : Gs} (h : GOk n g) : GOk (n + 2) (bo la s w g).2 := by
 unfold bo
 split
 exact h.flag.le (by omega)
 split
 split
 exact (nJ h).flag
 exact nJ h
 split
 exact nJ h
 split
 exact h.le (by omega)
 split
 exact h.flag.goal.flag.le (by omega)
 exact h.le (by omega)
def mf (m : Nat) : Nat := 8 * (2 ^ (m / 2) * (m + 1))
theorem bZ {m n : Nat} (h : m ≤ n) : mf m ≤ mf n := by
 unfold mf
 exact Nat.mul_le_mul_left _ (Nat.mul_le_mul (Nat.pow_le_pow_right (by decide) (Nat.div_le_div_right h)) (by omega))
theorem lQ {m : Nat} : mf m + 2 ≤ mf (m + 1) := by
 unfold mf
 have h1 : 2 ^ (m / 2) ≤ 2 ^ ((m + 1) / 2) := Nat.pow_le_pow_right (by decide) (by omega)
 have h2 : 1 ≤ 2 ^ ((m + 1) / 2) := Nat.one_le_two_pow
 have h3 : 2 ^ (m / 2) * (m + 1) ≤ 2 ^ ((m + 1) / 2) * (m + 1) := Nat.mul_le_mul_right _ h1
 rw [show (2 : Nat) ^ ((m + 1) / 2) * (m + 1 + 1) = 2 ^ ((m + 1) / 2) * (m + 1) + 2 ^ ((m + 1) / 2) from Nat.mul_succ _ _]
 omega
theorem nL {m : Nat} : mf m + mf m ≤ mf (m + 2) := by
 unfold mf
 rw [show (m + 2) / 2 = m / 2 + 1 by omega, Nat.pow_succ]
 have h3 : 2 ^ (m / 2) * (m + 1) ≤ 2 ^ (m / 2) * (m + 2 + 1) := Nat.mul_le_mul_left _ (by omega)
 rw [show 2 ^ (m / 2) * 2 * (m + 2 + 1) = 2 * (2 ^ (m / 2) * (m + 2 + 1)) by rw [Nat.mul_right_comm, Nat.mul_comm]]
 omega
theorem ni : mf 30 = 8126464 := by decide
theorem pM {m : Nat} : 8 ≤ mf m := by
 have := bZ (dF m)
 exact Nat.le_trans (by decide) this
def lv (t : Tm) : Tm × Bool := if t.ok = true then (t, true) else (⟨0, []⟩, false)
theorem gT {f : Tm → Int} : ∀ {ts : List Tm} {ms : List Int}, bS f (ts.take ms.length) ms = bS f ts ms
 | [], ms => by simp
 | t :: ts, [] => by simp [bS]
 | t :: ts, m :: ms => by simp only [iX, List.take_succ_cons, bS]; rw [gT]
theorem tk {t : Tm} {vs : List Tm} : lv (iP (⟨t.c, []⟩ :: vs.take t.xs.length) (1 :: t.xs)) = aD t vs := by
 have h1 : bS Tm.c (⟨t.c, []⟩ :: vs.take t.xs.length) (1 :: t.xs) = t.c + bS Tm.c vs t.xs := by rw [bS, gT, Int.one_mul]
 have h2 : cj (⟨t.c, []⟩ :: vs.take t.xs.length) (1 :: t.xs) = cj vs t.xs := by
  unfold cj
  apply List.map_congr_left
  intro k _
  rw [bS, gT]
  simp [m8]
 rw [iP, h1, h2]; rfl
theorem tj {t : Tm} {vs : List Tm} : me (t.c + bS Tm.c (vs.take t.xs.length) (t.xs.take t.xs.length)) (cj (vs.take t.xs.length) (t.xs.take t.xs.length)) = aD t vs := by
 have h2 : cj (vs.take t.xs.length) t.xs = cj vs t.xs := by
  unfold cj
  apply List.map_congr_left
  intro k _
  rw [gT]
 rw [List.take_length, gT, h2]; rfl
theorem wC {t : Tm} (h : t.ok = true) : (Tm.mk t.c []).ok = true := by
 have := (Small.of h).c
 simp [Tm.ok, this]
theorem pQ {vs : List Tm} {n : Int} (h : gI vs n = true) : (∀ t ∈ vs, t.ok = true) ∧ (vs.length : Int) ≤ n := by
 unfold gI at h
 simpa using h
theorem uw {t : Tm} {vs : List Tm} {n : Nat} (ht : t.ok = true) (hv : gI vs 10 = true) : CtxOk (⟨t.c, []⟩ :: vs.take n) := by
 have h1 := pQ hv
 refine ⟨fun u hu => ?_, by simp; omega⟩
 rcases List.mem_cons.1 hu with rfl | h
 exact wC ht
 exact h1.1 u (List.mem_of_mem_take h)
theorem uB {t : Tm} : bu t = lv (se t) := wk
variable {t : Tm}
theorem za : MQ h1 h2 158 [cT t] [] (Plain (mq (lv t))) := by
 refine MC.data (jB 10 h1 h2 Tryz.func158 Z Z Z fun O hF => ?_)
 refine ag (jx O Z (jf [1] Z (jl O Z (js O Z (jn (ah (ag (js O Z (aB O Z Z Z Z (pu (t := t) h1 h2) (af Z) Z Z Z Z Z (B0 := 6000) Z (js O Z (jf [6,3,2,1] Z (jn (ae O Z Z (fun hc6 => ?_) (fun hc6 => ?_))))))))))))))
 refine ag (js O Z (jf [7,3,2,1] Z (jo O Z (js O Z (jr ?_)))))
 refine ⟨.inl Z, _, av, _, Z, ?_⟩
 have hok : t.ok = false := by simpa using hc6
 rw [show lv t = (⟨0, []⟩, false) from if_neg (by rw [hok]; decide)]
 exact .tup (.cons (.agg (.cons .d (.cons .nils .nil))) (.cons (.c .d) .nil))
 refine ak (ag (js O Z (jf [8,3,2,1] Z (ay O Z Z Z Z (AC (t := t) h1 h2) (af Z) Z Z Z Z (B0 := 10000) Z Z (jf [9,3,2,1] Z (jo O Z (js O Z (jr ?_))))))))
 refine ⟨.inl Z, _, av, _, Z, ?_⟩
 have hok : t.ok = true := by simpa using hc6
 rw [show lv t = (t, true) from if_pos hok]
 exact .tup (.cons (.agg (aC Z)) (.cons (.c .d) .nil))
theorem vw (ht : t.ok = true) : MQ h1 h2 120 [cT t] [] (Plain (mq (bu t))) := by
 refine MC.data (jB 13 h1 h2 Tryz.func120 Z Z Z fun O hF => ?_)
 refine ag (jx O Z (jf [1] Z (jl O Z (js O Z (jn (ah (ag (js O Z (aB O Z Z Z Z (pu (t := t) h1 h2) (af Z) Z Z Z Z Z (B0 := 6000) Z (js O Z (jf [6,3,2,1] Z (jn (ae O Z Z (fun hc6 => ?_) (fun hc6 => ?_))))))))))))))
 exact absurd hc6 (by rw [ht]; decide)
 refine ak (ag (js O Z (jf [8,3,2,1] Z (ay O Z Z Z Z (Aw (t := t) h1 h2 ht) (af Z) Z Z Z Z (B0 := 10000) Z Z (jf [9,3,2,1] Z (ay O Z Z Z Z (za (t := se t) h1 h2) (af Z) Z Z Z Z (B0 := 11000) Z Z (j2 O Z Z (jf [12,11,3,2,1] Z (jo O Z (js O Z (jf [3,2,1] Z (jr ?_))))))))))))
 refine ⟨.inl Z, _, av, _, Z, ?_⟩
 rw [uB]
 exact .tup (.cons (.agg (aC Z)) (.cons (.c .d) .nil))
theorem lg {k : Nat} : (List.replicate (k + 1) [D.int .i64 0])[0 + k]? = some [D.int .i64 0] := by simp
theorem ld {k : Nat} : (List.replicate (k + 1) [D.int .i64 0]).set (0 + k) [D.int .i64 1] = ((List.replicate k 0 ++ [1] : List Int)).map fun n => [D.int .i64 n] := by
 rw [List.replicate_succ', Nat.zero_add, List.set_append_right _ _ (by simp)]; simp
theorem vy {k : Nat} (hk : k < 10) : MQ h1 h2 111 [eI k] [] (Plain (cT (gz k))) := by
 refine MC.data (jB 13 h1 h2 Tryz.func111 Z Z Z fun O hF => ?_)
 refine ag (jl O Z (ap ?_))
 refine bn (js O Z (ji O Z (jf [5,2,0] Z (AOps.heap (ep O Z Z Z Z Z Z Z Z Z (by first | omega | (simp at *; omega)) (by first | omega | (simp at *; omega)) (by first | omega | (simp at *; omega)) (by first | omega | (dsimp only; omega) | (simp only [cf] at *; omega)) (by first | omega | (simp at *; omega)) Z Z Z) Z (ap ?_)))))
 refine js O Z (jf [7,2,0] Z (jl O Z (ap ?_)))
 refine jo O Z (ap ?_)
 refine bn (j3 O Z Z Z (fI O Z Z (jf [11,3,7,2,0] Z (AOps.heap (cv (ex := [.int .i64 0]) (xs' := ((List.replicate k 0 ++ [1] : List Int)).map (fun n => [D.int .i64 n])) O Z Z Z Z Z Z Z Z Z Z Z Z Z Z lg ld) Z (ap ?_)))))
 refine bn (js O Z (jo O Z (ap ?_)))
 refine jr ?_
 refine ⟨.inl Z, _, av, _, Z, ?_⟩
 exact .v (.agg (.cons .d (.cons (.whole Z (by simp [gz])) .nil)))
theorem zf {vs : List Tm} (hc : CtxOk vs) (hm : t.xs.all num = true) (hn : num t.c = true) (hle : t.xs.length ≤ vs.length) : MQ h1 h2 161 [ptr t.cells, cW vs] [] (Plain (mq (aD t vs))) := by
 refine MC.data (jB 93 h1 h2 Tryz.func161 Z Z Z fun O hF => ?_)
 have hlc := hc.len
 have hnc := zy.1 hn
 have hl : t.xs.length ≤ L := by simpa [As.fact, A.fact, M.fact, D.fact, Ds.fact] using hF.1.2.1.1
 refine ag (jl O Z (js O Z (bn (j4 O Z Z Z Z (js O Z (jf [6,5,4,0,1] Z (bn (AOps.heap (ep O Z Z Z Z Z Z Z Z Z (by first | omega | (simp at *; omega)) (by first | omega | (simp at *; omega)) (by first | omega | (simp at *; omega)) (by first | omega | (dsimp only; omega) | (simp only [cf] at *; omega)) (by first | omega | (simp at *; omega)) Z Z Z) Z (js O Z (jn (ah (ag (js O Z (jn (aq (aH (X := Nat) (fun i => ⟨[(0, ptr t.cells), (1, cW vs), (4, .c (.pt 4 0 0)), (6, eI (t.c + bS Tm.c (vs.take i) (t.xs.take i))), (7, .c (.rs 14 0 10)), (8, eI i)], [(4, .box [.d (.int .i64 0), .d .nils]), (14, aA (cj (vs.take i) (t.xs.take i)))]⟩) (fun i => i ≤ t.xs.length) (fun i => t.xs.length - i) 0 (Ent.to ⟨Z, Z, Z, by show some (eI t.c) = _; simp [bS], Z, Z, trivial⟩ Z) ?_ (fun i hi => ?_)))))))))))))))))
 exact dF _
 refine ah (ag (j4 O Z Z Z Z (js O Z (eK O Z (js O Z (jf [21,0,1,4,6,7,8] Z (jn (ae O Z Z (fun hc21 => ?_) (fun hc21 => ?_)))))))))
 try simp only [cf] at hc21
 refine ak (ah (aq (ah (ag (j2 O Z Z (eK O Z (js O Z (jf [27,21,0,1,4,6,7,8] Z (jn (ae O Z Z (fun hc27 => ?_) (fun hc27 => ?_)))))))))))
 try simp only [cf] at hc27
 exact absurd hc27 (by omega)
 try simp only [cf] at hc27
 refine ak (ah ?_)
 have hi0 := hi
 have hts := Small.of (hc.get (show i < vs.length by omega))
 have hd1 := jE (f := Tm.c) (ts := vs) (ms := t.xs) (fun t ht => (Small.of (hc.ok t ht)).c) hm (i := i) (by omega) hi
 have hd2 := gf (f := Tm.c) (ts := vs) (ms := t.xs) (i := i) (by omega) (by omega)
 have hmi : num (t.xs.getD i default) = true := by rw [aM (by omega)]; exact List.all_eq_true.1 hm _ (List.getElem_mem _)
 have hmu := eV hmi hts.c
 refine fc O [_,_,_,_,_,_,_,_,_,_,_,_,_,_,_,_] [pn [] 0 0, pn [] 0 0, pn [1] 0 0, pn [1,2] 0 0, pn [1,2,3] 0 0, pn [] 0 0, pn (rg 1 5) 0 0, pn (rg 1 6) 0 0, pn [] 0 0, pn [] 0 0, pn [8,9] 0 0, pn [8,9,10] 0 0, pn (rg 8 4) 0 0, pn (rg 1 12) 0 0, pn (rg 0 14) 0 0, pn (rg 0 15) 0 0] [] [_] (kc O Z (kc O Z (kc O Z (kc O Z (kc O Z (kc O Z (ai (vN O Z) (kc O Z (kc O Z (kc O Z (ai (vN O Z) (kc O Z (kc O Z (ai (bc O Z Z (by omega) (by omega)) (ai (bc O Z Z (by omega) (by omega)) (kc O Z trivial)))))))))))))))) ?_
 refine jw [6,27,21,0,1,4,7,8] Z (bK ?_)
 refine ag (js O Z (jn (aq (aH (X := Nat) (fun j => ⟨[(0, ptr t.cells), (1, cW vs), (4, .c (.pt 4 0 0)), (6, eI (t.c + bS Tm.c (vs.take i) (t.xs.take i) + t.xs.getD i default * (vs.getD i default).c)), (7, .c (.rs 14 0 10)), (8, eI i), (9, eI j)], [(4, .box [.d (.int .i64 0), .d .nils]), (14, aA (eM vs t.xs i j))]⟩) (fun j => j ≤ (vs.getD i default).xs.length) (fun j => (vs.getD i default).xs.length - j) 0 (((am [4,14] (e' := [(0, _), (1, _), (4, _), (6, _), (7, _), (8, _), (9, _)]) Z Z ⟨Z, Z, Z, Z, Z, Z, Z, trivial⟩ Z)).trans (Ent.to ⟨Z, Z, Z, Z, Z, Z, Z, trivial⟩ (by rw [mI]; rfl))) ?_ (fun j hi => ?_)))))
 exact dF _
 refine ah (ag (j3 O Z Z Z (r6 O Z Z (j2 O Z Z (eK O Z (js O Z (jf [63,0,1,4,6,7,8,9] Z (jn (ae O Z Z (fun hc63 => ?_) (fun hc63 => ?_))))))))))
 try simp only [cf] at hc63
 refine ak (ah (aq ?_))
 have hjl : j < 10 := by have := pE (hc.get (show i < vs.length by omega)); omega
 have hpj := lG (ts := vs) (ms := t.xs) (i := i) hjl
 have hps := mJ (ts := vs) (ms := t.xs) (i := i) hjl
 have hpl := dL (ts := vs) (ms := t.xs) (i := i) (j := j)
 have hd3 := jE (f := m8 j) (ts := vs) (ms := t.xs) (fun t ht => (Small.of (hc.ok t ht)).get j) hm (i := i) (by omega) (by omega)
 have hmx := eV hmi (hts.get j)
 rw [show (vs.getD i default).xs.getD j 0 = (vs.getD i default).xs.getD j default from Z] at hmx
 refine fc O [_,_,_,_,_,_,_,_,_,_,_,_,_,_,_,_,_,_,_,_,_,_,_] [pn [] 0 0, pn [] 0 0, pn [0,1] 0 0, pn [0,1,2] 0 0, pn [] 0 0, pn [4] 0 0, pn [4,5] 0 0, pn [4,5,6] 0 0, pn [] 0 0, pn (rg 4 5) 0 0, pn (rg 4 6) 0 0, pn [] 0 0, pn [] 0 0, pn [11,12] 0 0, pn [11,12,13] 0 0, pn (rg 11 4) 0 0, pn [] 0 0, pn (rg 11 6) 0 0, pn (rg 11 7) 0 0, pn (rg 4 15) 0 0, pn (rg 0 20) 0 0, pn (rg 0 21) 0 0, pe (rg 0 22) 0] [22] [_,_] (kc O Z (kc O Z (ai (vI O Z Z) (ai (eJ O (ex := [.int .i64 ((eM vs t.xs i j).getD j default)]) Z Z Z Z (sk (by omega)) Z) (kc O Z (kc O Z (kc O Z (kc O Z (kc O Z (ai (vN O Z) (kc O Z (kc O Z (kc O Z (ai (vN O Z) (kc O Z (kc O Z (kc O Z (ai (vN O Z) (kc O Z (ai (bc O Z Z (by omega) (by omega)) (ai (bc O Z Z (by omega) (by omega)) (ai (vI O Z Z) (ai (cu (ex := [.int .i64 ((eM vs t.xs i j).getD j default)]) (xs' := (eM vs t.xs i (j + 1)).map (fun n => [D.int .i64 n])) O Z Z Z Z Z Z Z Z Z Z Z Z Z Z Z (sk (by omega)) (by rw [← hps, List.map_set]; simp only [Int.toNat_natCast, Nat.zero_add]; rfl) Z) trivial))))))))))))))))))))))) ?_
 refine jw [63,0,1,4,6,7,8,9] Z (bK ?_)
 refine an (js O Z (ji O Z (js O Z (jf [9,63,0,1,4,6,7,8] Z (jn ?_)))))
 refine ⟨j + 1, Ent.to ⟨Z, Z, Z, Z, Z, Z, Z, trivial⟩ Z, by omega, by omega⟩
 try simp only [cf] at hc63
 refine bH (an (js O Z (ji O Z (js O Z (jf [8,63,0,1,4,6,7,9] Z (jn ?_))))))
 refine ⟨i + 1, ((am [4,14] (e' := [(0, _), (1, _), (4, _), (6, _), (7, _), (8, _)]) Z Z ⟨Z, Z, Z, Z, Z, Z, trivial⟩ Z)).trans (Ent.to ⟨Z, Z, Z, by rw [hd2, ← Int.add_assoc]; rfl, Z, Z, trivial⟩ ?_), by omega, by omega⟩
 rw [← oA (j := j) (by omega) (by omega) (by omega)]; rfl
 try simp only [cf] at hc21
 refine bH (ag ?_)
 obtain rfl : i = t.xs.length := by omega
 have hcl := jU (ts := vs.take t.xs.length) (ms := t.xs.take t.xs.length)
 refine au (Ent.freeze 14 (e' := [(7, _), (6, _), (4, _)]) Z (.cons Z (.c (.row Z (by rw [cw, hcl]))) (fe [6,4] Z)) (.cons Z (.box (fk Z)) (.skip .nil))) ?_
 refine j2 O Z Z (ay O Z Z Z Z (ui (c := t.c + bS Tm.c (vs.take t.xs.length) (t.xs.take t.xs.length)) (xs := cj (vs.take t.xs.length) (t.xs.take t.xs.length)) h1 h2) (af Z) Z Z Z Z (B0 := 91000) Z Z (j2 O Z Z (jf [92,91,7,6,4] Z (jo O Z (js O Z (jf [5,7,6,4] Z (jr ?_)))))))
 refine ⟨.inl Z, _, av, _, Z, ?_⟩
 rw [← tj]
 exact .tup (.cons (.agg (aC Z)) (.cons (.c .d) .nil))
end Go.Al
