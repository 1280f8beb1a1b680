/- Both gather the same. -/
import Derived.Test.YtnnbiajhcolfiaaGreatR
import Derived.Test.YtnnbiajhcolfiaaGreatH
set_option linter.unusedVariables false
set_option linter.unusedSimpArgs false
set_option maxRecDepth 10000
set_option maxHeartbeats 4000000
open Go.Proofs
namespace Go.Al
variable {L : Nat} (h1 : 4096 ≤ L) (h2 : L ≤ 1073741824)
theorem qV {t : Tm} : bg t = if (iP [⟨7, []⟩, t] [1, -1]).ok = true then (iP [⟨7, []⟩, t] [1, -1], true) else (⟨0, []⟩, false) := by
 unfold bg rd me
 have h1 : (1 * (⟨7, []⟩ : Tm).c + -1 * t.c) = bS Tm.c [⟨7, []⟩, t] [1, -1] := by
  simp only [bS] <;> omega
 have h2 : iK ⟨7, []⟩ 1 t (-1) = cj [⟨7, []⟩, t] [1, -1] := by
  unfold iK cj
  apply List.map_congr_left
  intro k _
  simp only [bS, m8] <;> omega
 rw [h1, h2]
theorem sB : LaEq bV bg := by
 refine ⟨fun t _ => ?_, fun t _ h => ?_⟩
 rw [qV]; unfold bV; dsimp only
 cases h : (iP [⟨7, []⟩, t] [1, -1]).ok <;> simp
 have h : (iP [⟨7, []⟩, t] [1, -1]).ok = true := h
 rw [qV, if_pos h]; rfl
structure Sim (P : List Pth) (C : List Sq) (g h : Gs) : Prop where
  ok : g.bad = false → h.bad = false ∧ g.paths = P ++ h.paths ∧ g.conds = C ++ h.conds ∧ g.paths.length ≤ 200
  bad : g.bad = true → h.bad = true ∨ 200 < P.length + h.paths.length
theorem Sim.flag {P C g h} (s : Sim P C g h) {b : Bool} : Sim P C (g.flag b) (h.flag b) := by
 refine ⟨fun e => ?_, fun e => ?_⟩
 simp only [Gs.flag, Bool.or_eq_false_iff] at e ⊢
 have := s.ok e.1
 exact ⟨⟨this.1, e.2⟩, this.2⟩
 simp only [Gs.flag, Bool.or_eq_true] at e ⊢
 rcases e with e | e
 exact (s.bad e).imp .inl id
 exact .inl (.inr e)
theorem Sim.goal {P C g h} (s : Sim P C g h) {w : Pw} {t : Tm} : Sim P C (g.goal w t) (h.goal w t) :=
  ⟨fun e => by
 have := s.ok e
 exact ⟨this.1, this.2.1, by simp only [Gs.goal, this.2.2.1, eQ], this.2.2.2⟩, fun e => s.bad e⟩
theorem Sim.path {P C g h} (s : Sim P C g h) {frm : Int} {w : Pw} {to : Int} : Sim P C (fL frm w to g) (fL frm w to h) := by
 refine ⟨fun e => ?_, fun e => ?_⟩
 simp only [fL, Bool.or_eq_false_iff, decide_eq_false_iff_not] at e ⊢
 have := s.ok e.1
 have hl := congrArg List.length this.2.1
 rw [de] at hl
 refine ⟨⟨this.1, by omega⟩, by rw [this.2.1, eQ], this.2.2.1, ?_⟩
 rw [de, gt]; omega
 simp only [fL, Bool.or_eq_true, decide_eq_true_eq] at e ⊢
 rw [de, gt]
 cases hb : g.bad with
 | true =>
  rcases s.bad hb with h1 | h1
  exact .inl (.inl h1)
  exact .inr (by omega)
 | false =>
  have := s.ok hb
  have hl := congrArg List.length this.2.1
  rw [de] at hl
  rcases e with e | e
  rw [hb] at e; cases e
  exact .inr (by omega)
theorem Sim.fold {P C} {w : Pw} : ∀ {fs : List Tm} {g h : Gs}, Sim P C g h → Sim P C (fs.foldl (bl w) g) (fs.foldl (bl w) h)
 | [], g, h, s => s
 | t :: fs, g, h, s => Sim.fold (fs := fs) (s.flag.goal : Sim P C (bl w g t) (bl w h t))
theorem Sim.end {P C g h} (s : Sim P C g h) {frm : Int} {w : Pw} {to : Int} {fs : List Tm} : Sim P C (cV frm w to fs g) (cV frm w to fs h) := s.fold.path
theorem Sim.cell {la : cF} {P C g h} (s : Sim P C g h) {w : Pw} {t : Tm} : Sim P C (cd la w t g) (cd la w t h) := s.flag.goal.flag.goal
theorem Sim.leaf {la : cF} {P C g h} (s : Sim P C g h) {m : Sm} {w : Pw} : (bo la m w g).1 = (bo la m w h).1 ∧ Sim P C (bo la m w g).2 (bo la m w h).2 := by
 unfold bo
 split
 exact ⟨Z, s.flag⟩
 split
 split
 exact ⟨Z, s.cell.flag⟩
 exact ⟨Z, s.cell⟩
 split
 exact ⟨Z, s.cell⟩
 split
 exact ⟨Z, s⟩
 split
 exact ⟨Z, s.flag.goal.flag⟩
 exact ⟨Z, s⟩
def Grow (g h : Gs) : Prop := g.paths.length ≤ h.paths.length ∧ (g.bad = true → h.bad = true)
theorem Grow.refl {g : Gs} : Grow g g := ⟨cN _, id⟩
theorem Grow.trans {g h k : Gs} (a : Grow g h) (b : Grow h k) : Grow g k := ⟨Nat.le_trans a.1 b.1, fun e => b.2 (a.2 e)⟩
theorem Grow.flag {g : Gs} {b : Bool} : Grow g (g.flag b) := ⟨cN _, fun e => by simp [Gs.flag, e]⟩
theorem Grow.goal {g : Gs} {w : Pw} {t : Tm} : Grow g (g.goal w t) := ⟨cN _, id⟩
theorem Grow.end {g : Gs} {frm : Int} {w : Pw} {to : Int} {fs : List Tm} : Grow g (cV frm w to fs g) :=
  ⟨by
    have h3 := congrArg List.length (dG (fs := fs) (w := w) (g := g))
    simp only [cV, fL, de, gt]; omega, fun e => uL e⟩
theorem Grow.leaf {la : cF} {g : Gs} {m : Sm} {w : Pw} : Grow g (bo la m w g).2 := by
 unfold bo
 split
 exact .flag
 split
 split
 exact ((Grow.flag.trans .goal).trans .flag).trans (Grow.goal.trans .flag)
 exact ((Grow.flag.trans .goal).trans .flag).trans .goal
 split
 exact ((Grow.flag.trans .goal).trans .flag).trans .goal
 split
 exact .refl
 split
 exact (Grow.flag.trans .goal).trans .flag
 exact .refl
theorem gR {la : cF} {E : Pe} {frm : Int} : ∀ {n : Nat} {r : List Fr} {w : Pw} {g : Gs}, Grow g (dx la E frm n r w g)
 | 0, r, w, g => .refl
 | n + 1, r, w, g => by
  cases hb : g.bad with
  | true => rw [bX hb]; exact .refl
  | false =>
   match r with
   | [] => rw [el hb]; exact .end
   | .lp k :: r => rw [gK hb]; exact .end
   | .st (.node s a []) :: r => rw [dB hb]; exact Grow.leaf.trans gR
   | .st (.node s a [x]) :: r => rw [gJ hb]; exact .end
   | .st (.node s a [x, y]) :: r =>
    by_cases hk : s.kind = 1
    rw [ej hb hk]; exact gR
    rw [fX hb hk, c8]
    exact ((Grow.flag.trans .flag).trans .flag).trans (gR.trans gR)
   | .st (.node s a (x :: y :: z :: ks)) :: r => rw [gQ hb]; exact Grow.leaf.trans gR
theorem Sim.grow {P C g h k} (s : Sim P C g h) (hg : g.bad = true) (a : Grow h k) : Sim P C g k :=
  ⟨fun e => absurd (hg.symm.trans e) (by decide), fun _ => (s.bad hg).imp a.2 (fun h => by have := a.1; omega)⟩
theorem fQ {la : cF} {E : Pe} {frm : Int} {P C} : ∀ {n : Nat} {r : List Fr} {w : Pw} {g h : Gs}, Sim P C g h → Sim P C (dx la E frm n r w g) (dx la E frm n r w h)
 | 0, r, w, g, h, s => s
 | n + 1, r, w, g, h, s => by
  cases hb : g.bad with
  | true => rw [bX hb]; exact s.grow hb gR
  | false =>
   have hc := (s.ok hb).1
   match r with
   | [] => rw [el hb, el hc]; exact s.end
   | .lp k :: r => rw [gK hb, gK hc]; exact s.end
   | .st (.node m a []) :: r =>
    rw [dB hb, dB hc, (s.leaf (la := la) (m := m) (w := w)).1]
    exact fQ s.leaf.2
   | .st (.node m a [x]) :: r => rw [gJ hb, gJ hc]; exact s.end
   | .st (.node m a [x, y]) :: r =>
    by_cases hk : m.kind = 1
    rw [ej hb hk, ej hc hk]; exact fQ s
    rw [fX hb hk, fX hc hk]
    exact fQ (fQ s.flag.flag.flag)
   | .st (.node m a (x :: y :: z :: ks)) :: r =>
    rw [gQ hb, gQ hc, (s.leaf (la := la) (m := m) (w := w)).1]
    exact fQ s.leaf.2
theorem rq {la : cF} {E : Pe} {b : List Sm} {t : Tr} {pre : List Tm} {P C} {n : Nat} {g h : Gs} (s : Sim P C g h) : Sim P C (cg la E b t pre n g) (cg la E b t pre n h) := by
 cases n with
 | zero => rw [cg, cg]; exact fQ s
 | succ n => rw [cg, cg, c8, c8, aR, aR]; exact fQ (fQ s.flag.flag.flag)
theorem tl {E : Pe} {b : List Sm} {t : Tr} {pre : List Tm} {n : Nat} {g : Gs} : GEq (cg bV E b t pre n g) (cg bg E b t pre n g) := by
 cases n with
 | zero => rw [cg, cg]; exact gL sB .refl
 | succ n => rw [cg, cg, c8, c8]; exact gL sB (gL sB .refl)
theorem mF {la : cF} {E : Pe} {b : List Sm} {t : Tr} {pre : List Tm} {n : Nat} {g : Gs} (h : g.bad = true) : cg la E b t pre n g = g := by
 cases n with
 | zero => rw [cg]; exact bX h
 | succ n => rw [cg, c8, aR, jP h, jP h, jP h, bX h, bX h]
def ii (p : Pm) (t : Tr) : Nat → Gs
  | 0 => g0
  | i + 1 => jm bV p t i (ii p t i)
def fJ (p : Pm) (t : Tr) : Nat → Gs
  | 0 => g0
  | i + 1 => if (fJ p t i).bad = true then fJ p t i else ⟨(fJ p t i).paths ++ (jm bg p t i g0).paths, (fJ p t i).conds ++ (jm bg p t i g0).conds, (jm bg p t i g0).bad || decide (200 < ((fJ p t i).paths ++ (jm bg p t i g0).paths).length)⟩
theorem vH {p : Pm} {t : Tr} : ∀ n, GEq (ii p t n) (fJ p t n) ∧ ((ii p t n).bad = false → (ii p t n).paths.length ≤ 200)
 | 0 => ⟨by rw [ii, fJ]; exact .refl, fun _ => by rw [ii]; exact dF _⟩
 | n + 1 => by
  obtain ⟨e, hl⟩ := vH (p := p) (t := t) n
  rw [ii, fJ]
  cases hb : (ii p t n).bad with
  | true =>
   rw [if_pos (by rw [← e.bad]; exact hb), jm, mF hb]
   exact ⟨e, fun h => by rw [hb] at h; cases h⟩
  | false =>
   have ha := e.eq hb
   rw [← ha, if_neg (by rw [hb]; decide)]
   have s0 : Sim (ii p t n).paths (ii p t n).conds (ii p t n) g0 := ⟨fun _ => ⟨rfl, by simp [g0], by simp [g0], hl hb⟩, fun h => absurd (hb.symm.trans h) (by decide)⟩
   have s := rq (la := bV) (E := pj p.body p.post) (b := p.body) (t := t) (pre := p.pre) (n := n) s0
   have q := tl (E := pj p.body p.post) (b := p.body) (t := t) (pre := p.pre) (n := n) (g := g0)
   unfold jm
   generalize cg bV (pj p.body p.post) p.body t p.pre n (ii p t n) = x at s ⊢
   generalize cg bV (pj p.body p.post) p.body t p.pre n g0 = y at s q
   generalize cg bg (pj p.body p.post) p.body t p.pre n g0 = z at q ⊢
   refine ⟨?_, fun h => (s.ok h).2.2.2⟩
   cases hc : x.bad with
   | false =>
    obtain ⟨a1, a2, a3, a4⟩ := s.ok hc
    have a5 := q.eq a1
    subst a5
    rw [← a2, ← a3, a1, decide_eq_false (show ¬ 200 < x.paths.length by omega)]
    have e : (⟨x.paths, x.conds, false || false⟩ : Gs) = x := by cases x; simp only at hc; subst hc; rfl
    rw [e]
    exact .refl
   | true =>
    refine .of hc ?_
    have : z.bad = true ∨ 200 < ((ii p t n).paths ++ z.paths).length := by
     cases hd : y.bad with
     | true => exact .inl (by rw [← q.bad]; exact hd)
     | false =>
      have a6 := q.eq hd
      subst a6
      rcases s.bad hc with h | h
      exact .inl h
      exact .inr (by rw [de]; exact h)
    rcases this with h | h
    simp [h]
    simp only [decide_eq_true h, Bool.or_true]
theorem ov {b : List Sm} {t : Tr} (hT : bR b 0 = some (t, b.length)) : (∃ fl i, Pl b fl i [.st t]) ∧ ∀ n, n < ba b b.length → (∃ fl i, Pl b fl i [.st ((aV b t []).getD n default).x, .lp n]) ∧ (∃ fl i, Pl b fl i ((aV b t []).getD n default).r) := by
 have hB := eF hT (nx := -1) (f := []) (r := []) .nil
 refine ⟨⟨_, _, hB.pl⟩, fun n hn => ?_⟩
 obtain ⟨hq, hqa⟩ := jC hT hn
 obtain ⟨i, _, h1, h2, h3, h4⟩ := hB.all _ hq
 rw [hqa] at h3
 exact ⟨⟨_, _, h3⟩, ⟨_, _, h4⟩⟩
theorem ow {la : cF} {E : Pe} {b : List Sm} {t : Tr} {pre : List Tm} (hE : EOk E b) (hT : bR b 0 = some (t, b.length)) (hnd : t.nodes ≤ 30) {n c : Nat} (hn : n ≤ ba b b.length) {g : Gs} (hg : GOk c g) : GOk (c + 16252928) (cg la E b t pre n g) := by
 obtain ⟨⟨fl, i, p0⟩, hl⟩ := ov hT
 have e0 : az [] = 0 := rfl
 have h30 := ni
 cases n with
 | zero =>
  rw [cg]
  have hm := bZ (m := az [.st t]) (n := 30) (by show t.nodes + 0 ≤ 30; omega)
  exact (fq hE p0 hg).le (by omega)
 | succ n =>
  obtain ⟨⟨f1, i1, p1⟩, ⟨f2, i2, p2⟩⟩ := hl n (by omega)
  have hsz := (r4 hT (r := [])).size _ (jC hT (n := n) (by omega)).1
  have hm1 := bZ (m := az [.st ((aV b t []).getD n default).x, .lp n]) (n := 30) (by show ((aV b t []).getD n default).x.nodes + 0 ≤ 30; omega)
  have hm2 := bZ (m := az ((aV b t []).getD n default).r) (n := 30) (by omega)
  rw [cg, c8, aR]
  exact (fq hE p2 (fq hE p1 hg.flag.flag.flag)).le (by omega)
theorem zl {L : Nat} (h1 : 4096 ≤ L) (h2 : L ≤ 1073741824) {p : Pm} {t : Tr} (ht : PtOk p t) {n c : Nat} (hn : n ≤ ba p.body p.body.length) {g : Gs} (hg : GOk c g) (hL : c + 16252928 ≤ L) : MC Tryz.prog L 48 [.c (.pt 0 0 0), eI ((n : Int) - 1)] (vK p t g) (aS (.tup []) (u7 p t (jm bV p t n g))) := by
 have hE := ht.e
 have hbl := ht.len
 have hT := ht.tree
 have hnd := ht.nodes
 have hP := yM (pre := p.pre) (post := p.post) hT
 have hpre := (jI ht.pre).2
 obtain ⟨hp0, hl⟩ := ov hT
 have e0 : az [] = 0 := rfl
 have h30 := ni
 have hlen : (gD t).lp.length = ba p.body p.body.length := (ky hT).1.len
 have hnl := fP (b := p.body) (k := p.body.length)
 rw [jm]
 cases n with
 | zero =>
  have hm := bZ (m := az [.st t]) (n := 30) (by show t.nodes + 0 ≤ 30; omega)
  rw [cg]
  exact w3 h1 h2 (f := p.pre) (t := t) Z (by simp) (by simp; omega) Z (by omega) Z
   (sH h1 h2 hE (by omega) hP 31 hp0 (by show t.nodes + 0 < 31; omega) (qx (by omega)) hg (by omega))
 | succ n =>
  obtain ⟨hp1, hp2⟩ := hl n (by omega)
  obtain ⟨hq, hqa⟩ := jC hT (n := n) (by omega)
  have hat := (r4 hT (r := [])).at_ _ hq
  have hsz := (r4 hT (r := [])).size _ hq
  have hst := ht.st _ (show ((aV p.body t []).getD n default).a < p.body.length by omega)
  rw [← hat.2.2.2] at hst
  have htm := ik hst
  have hf := fO hst
  have hqe : (gD t).lp.getD n default = (aV p.body t []).getD n default := by rw [(ky hT).2]
  obtain ⟨q, hqL⟩ : ∃ q, (aV p.body t []).getD n default = q := ⟨_, rfl⟩
  rw [hqL] at hp1 hp2 hq hqa hat hsz hst htm hf hqe
  have hsf : (p.pre :: (gD t).lp.map (·.s.facts)).getD (n + 1) default = q.s.facts := by
   rw [List.getD_cons_succ, ← hqe]
   simp [List.getD_eq_getElem?_getD, show n < (gD t).lp.length by omega]
  have hm1 := bZ (m := az [.st q.x, .lp n]) (n := 30) (by show q.x.nodes + 0 ≤ 30; omega)
  have hm2 := bZ (m := az q.r) (n := 30) (by omega)
  have e : ((n + 1 : Nat) : Int) - 1 = (n : Nat) := by omega
  have hw := qx (n := 32) (fs := q.s.facts) (by have := hf.2; omega)
  have h8 : m5 4 = (w0 q.s.facts).vars := rfl
  rw [cg, e, hqL, h8]
  generalize hw0 : w0 q.s.facts = w at hw ⊢
  obtain ⟨f1, i1, p1⟩ := hp1
  have hg2 : GOk c (ca w (aD q.s.sum w.vars).1 (aR w q.s.sum g)) := hg.flag.flag.flag
  have hg3 := fq hE (la := bV) (frm := (n : Nat)) (n := 31) (w := w.fact (aD q.s.sum w.vars).1) p1 hg2
  exact w2 h1 h2 (Y := dx bV (pj p.body p.post) (n : Nat) 31 [.st q.x, .lp n]) (N := dx bV (pj p.body p.post) (n : Nat) 31 q.r) hw0 (by omega) hqe (by simp; omega) (by simp; omega) hsf (by have := hf.2; omega) htm.1 (by omega) (fun u g h => bX h) (fun u g h => bX h)
   (fun _ => sH h1 h2 hE (by omega) hP 31 ⟨f1, i1, p1⟩ (by show q.x.nodes + 0 < 31; omega) hw.fact hg2 (by omega))
   (fun _ => sH h1 h2 hE (by omega) hP 31 hp2 (by omega) hw.fact hg3 (by omega))
theorem xv {p : Pm} {t : Tr} (ht : PtOk p t) : ∀ n, n ≤ ba p.body p.body.length + 1 → (fJ p t n).conds.length ≤ n * 16252928 ∧ ((fJ p t n).bad = false → (fJ p t n).paths.length ≤ 200) ∧ (n < ba p.body p.body.length + 1 → (jm bg p t n g0).paths.length ≤ 201 ∧ (jm bg p t n g0).conds.length ≤ 16252928)
 | n, hn => by
  have key : ∀ m, m ≤ ba p.body p.body.length → (jm bg p t m g0).paths.length ≤ 201 ∧ (jm bg p t m g0).conds.length ≤ 16252928 := fun m hm => by
   have h := ow (la := bg) (pre := p.pre) ht.e ht.tree ht.nodes hm sC
   exact ⟨h.paths, by have := h.conds; rw [Nat.zero_add] at this; exact this⟩
  refine ⟨?_, ?_, fun h => key n (by omega)⟩
  induction n with
  | zero => exact dF _
  | succ n ih =>
   have := ih (by omega)
   have k := (key n (by omega)).2
   rw [fJ]; split
   exact Nat.le_trans this (Nat.mul_le_mul_right _ (Nat.le_succ n))
   simp only [de]; rw [Nat.add_mul, Nat.one_mul]; exact Nat.add_le_add this k
  cases n with
  | zero => intro _; exact dF _
  | succ n =>
   rw [fJ]; split
   rename_i h; intro h2; rw [h] at h2; cases h2
   intro h2
   simp only [Bool.or_eq_false_iff, decide_eq_false_iff_not] at h2
   exact Nat.le_of_not_lt h2.2
theorem zm {p : Pm} {t : Tr} (ht : PtOk p t) (hL : 600000000 ≤ L) : MQ h1 h2 28 [ptr p.data] [] (Plain (.tup [.c (.d (vR (if (fJ p t (ba p.body p.body.length + 1)).bad then [] else (fJ p t (ba p.body p.body.length + 1)).paths))), .c (.d (xZ (if (fJ p t (ba p.body p.body.length + 1)).bad then [] else (fJ p t (ba p.body p.body.length + 1)).conds))), eB (!(fJ p t (ba p.body p.body.length + 1)).bad)])) := by
 refine MC.data (jB 44 h1 h2 Tryz.func28 Z Z Z fun O hF => ?_)
 have hlen := ht.len
 have hnl := fP (b := p.body) (k := p.body.length)
 have hwl := fN (b := p.body) (i := p.body.length)
 refine ag (j3 O Z Z Z (bn (AOps.heap (bB O Z Z Z) Z (ap ?_))))
 refine js O Z (bn (AOps.heap (bB O Z Z Z) Z (ap ?_)))
 refine js O Z (jn (ah (ag (js O Z (jn (aq (aH (X := Nat) (fun i => ⟨[(0, ptr p.data), (5, .c (.rs 905 0 (fJ p t i).paths.length)), (6, .c (.rs 906 0 (fJ p t i).conds.length)), (7, eI ((i : Int) - 1))], [(905, bE (fJ p t i).paths), (906, bF (fJ p t i).conds)]⟩) (fun i => i ≤ (ba p.body p.body.length + 1) ∧ (fJ p t i).bad = false) (fun i => (ba p.body p.body.length + 1) - i) 0 (((cy 9 Z).trans (cy 10 Z)).trans (((ac 9 905 Z Z).trans (ac 10 906 Z Z)).trans (Ent.to ⟨Z, Z, Z, Z, trivial⟩ Z))) ?_ (fun i hi => ?_))))))))
 exact ⟨dF _, Z⟩
 obtain ⟨hi1, hi2⟩ := hi
 obtain ⟨k1, k2, k3⟩ := xv ht i hi1
 have k4 := k2 hi2
 refine ah (ag (j2 O Z Z (ay O Z Z Z Z (sJ (pre := p.pre) (post := p.post) (b := p.body) h1 h2 (by omega)) (af Z) Z Z Z Z (B0 := 14000) Z Z (eK O Z (js O Z (jf [15,0,5,6,7] Z (jn (ae O Z Z (fun hc15 => ?_) (fun hc15 => ?_)))))))))
 refine ak (ah (aq (ag (j2 O Z Z ?_))))
 have hin : i ≤ ba p.body p.body.length := by have := bz hc15; omega
 obtain ⟨k5, k6⟩ := k3 (by omega)
 have hla : ((fJ p t i).paths ++ (jm bg p t i g0).paths).length = (fJ p t i).paths.length + (jm bg p t i g0).paths.length := de
 refine aj O [] (bin := []) Z Z Z Z (show MC Tryz.prog L 52 [ptr p.data, eI ((i : Int) - 1)] [] (aS (.c (.pt 0 0 0)) (gB (pP p.pre p.body p.post) (cS (ao t (-1) []).1) ((i : Int) - 1) (jm bg p t i g0))) from zn (pre := p.pre) (b := p.body) (t := t) (E := pj p.body p.post) h1 h2 ht.len ht.tree ht.cok ht.nodes ht.e (jI ht.pre).2 (by omega) (n := i) hin) Z Z Z Z Z Z (B0 := 21000) Z Z (ap ?_)
 refine js O Z (jf [8,15,0,5,6,7] Z (bn (j4 O Z Z Z Z (js O Z (jf [25,21,8,15,0,5,6,7] Z (AOps.heap (bk (own := false) (xs := (fJ p t i).paths.map Pth.cells) (ys := (jm bg p t i g0).paths.map Pth.cells) (zs := ((fJ p t i).paths ++ (jm bg p t i g0).paths).map Pth.cells) (n := ((fJ p t i).paths ++ (jm bg p t i g0).paths).length) O Z Z Z Z Z Z Z Z Z Z Z Z Z Z Z Z (.row Z (cw _).symm) (.whole Z (by simp) (.inr ⟨Z, Z⟩)) (by simp) Z (by simp; omega) (by simp; omega) (by simp) (by simp)) Z (ap ?_)))))))
 refine ap ?_
 refine js O Z (jf [5,8,15,0,6,7] Z (bn (j4 O Z Z Z Z (js O Z (jf [31,27,5,8,15,0,6,7] Z (AOps.heap (bk (own := false) (xs := (fJ p t i).conds.map Sq.cells) (ys := (jm bg p t i g0).conds.map Sq.cells) (zs := ((fJ p t i).conds ++ (jm bg p t i g0).conds).map Sq.cells) (n := ((fJ p t i).conds ++ (jm bg p t i g0).conds).length) O Z Z Z Z Z Z Z Z Z Z Z Z Z Z Z Z (.row Z (cw _).symm) (.whole Z (by simp) (.inr ⟨Z, Z⟩)) (by simp) Z (by simp; omega) (by simp; omega) (by simp) (by simp)) Z (ap ?_)))))))
 refine ap ?_
 refine js O Z (jf [6,5,8,15,0,7] Z (bn (j4 O Z Z Z Z ?_)))
 cases hb37 : (jm bg p t i g0).bad with
 | true =>
  refine js O Z (jf [37,6,5,8,15,0,7] Z (AOps.skip Z Z Z Z Z Z (AOps.skip Z Z Z Z Z Z (jf [39,37,6,5,8,15,0,7] Z (AOps.skip Z Z Z Z Z Z (aa (br O Z Z Z Z Z) Z Z Z (jf [41,6,5,8,15,0,7] Z (jn (ae O Z Z (fun hc41 => ?_) (fun hc41 => ?_))))))))))
  refine ag (j3 O Z Z Z (jr ?_))
  refine ⟨.inl Z, _, av, _, Z, ?_⟩
  have hbad : (fJ p t (i + 1)).bad = true := by rw [fJ, if_neg (by rw [hi2]; decide)]; simp [hb37]
  rw [nN (al := fJ p t) (fun i h => by rw [fJ, if_pos h]) hbad (n := (ba p.body p.body.length + 1)) (by have := bz hc15; omega), hbad, if_pos Z, if_pos Z]
  exact .tup (.cons (.c .nils) (.cons (.c .nils) (.cons (.c .d) .nil)))
  cases hc41
 | false =>
  refine js O Z (jf [37,6,5,8,15,0,7] Z (aZ Z (js O Z (aZ Z (fI O Z Z (jf [39,37,6,5,8,15,0,7] Z (aZ Z (js O Z (aa (aG O Z Z Z Z Z) Z Z Z (jf [41,6,5,8,15,0,7] Z (jn (ae O Z Z (fun hc41 => ?_) (fun hc41 => ?_)))))))))))))
  refine ag (j3 O Z Z Z (jr ?_))
  refine ⟨.inl Z, _, av, _, Z, ?_⟩
  have hbad : (fJ p t (i + 1)).bad = true := by rw [fJ, if_neg (by rw [hi2]; decide)]; simp only [decide_eq_true (show 200 < ((fJ p t i).paths ++ (jm bg p t i g0).paths).length by have := bz hc41; omega), Bool.or_true]
  rw [nN (al := fJ p t) (fun i h => by rw [fJ, if_pos h]) hbad (n := (ba p.body p.body.length + 1)) (by have := bz hc15; omega), hbad, if_pos Z, if_pos Z]
  exact .tup (.cons (.c .nils) (.cons (.c .nils) (.cons (.c .d) .nil)))
  refine ak (an (js O Z (ji O Z (js O Z (jf [7,41,6,5,8,15,0] Z (jn ?_))))))
  refine ⟨i + 1, (((am [26,32] (e' := [(0, _), (5, _), (6, _), (7, _)]) Z Z ⟨Z, Z, Z, Z, trivial⟩ Z).trans (ac 26 905 Z Z)).trans (ac 32 906 Z Z)).trans (Ent.to ⟨Z, by rw [fJ, if_neg (by rw [hi2]; decide)]; rfl, by rw [fJ, if_neg (by rw [hi2]; decide)]; rfl, by rw [show (((i + 1 : Nat)) : Int) - 1 = ((i : Int) - 1) + 1 by omega]; rfl, trivial⟩ (by rw [fJ, if_neg (by rw [hi2]; decide)]; rfl)), ⟨by omega, ?_⟩, by omega⟩
  rw [fJ, if_neg (by rw [hi2]; decide)]
  simp only [hb37, decide_eq_false (show ¬ 200 < ((fJ p t i).paths ++ (jm bg p t i g0).paths).length by have := cp hc41; omega)]; rfl
 refine bH (ag (j4 O Z Z Z Z (js O Z (jf [4,3,2,15,0,5,6,7] Z (jr ?_)))))
 refine ⟨.inl Z, _, av, _, Z, ?_⟩
 obtain rfl : i = (ba p.body p.body.length + 1) := by have := cp hc15; omega
 rw [hi2, if_neg (by decide), if_neg (by decide)]
 exact .tup (.cons (.c (.whole Z (cw _).symm)) (.cons (.c (.whole Z (cw _).symm)) (.cons (.c .d) .nil)))
theorem vB {p : Pm} {ps : List Pth} {cs : List Sq} {b : Bool} (hp : iO p = true) (hA : MQ h1 h2 28 [ptr p.data] [] (Plain (.tup [.c (.d (vR ps)), .c (.d (xZ cs)), eB b]))) : MQ h1 h2 9 [lc p] [] (Plain (.tup [.c (.d (vR ps)), eB b])) := by
 refine MC.data (jB 16 h1 h2 Tryz.func9 Z Z Z fun O hF => ?_)
 refine ag (jx O Z (ap ?_))
 refine au (Ent.freeze 1 (e' := [(1, _), (0, _)]) Z (.cons Z (.c (.box (cs := Pm.data p) Z (aC Z))) (fe [0] Z)) (.skip .nil)) ?_
 refine ap ?_
 refine j2 O Z Z (jn (ah (ag (aB O Z Z Z Z ((c55 (p := p) h1 h2).plain (u := eB true) (by rw [hp])) (af Z) Z Z Z Z Z (B0 := 8000) Z (js O Z (jn (ae O Z Z (fun hc8 => ?_) (fun hc8 => ?_))))))))
 cases hc8
 refine ak (ag (ay O Z Z Z Z (hA) (af Z) Z Z Z Z (B0 := 11000) Z Z (j4 O Z Z Z Z (j3 O Z Z Z (jf [6,4,7,3,2,1,0] Z (bn (j4 O Z Z Z Z (jf [3,2,7,1,0] Z (jr ?_)))))))))
 refine ⟨.inl Z, _, av, _, Z, ?_⟩
 exact .tup (.cons (.c .d) (.cons (.c .d) .nil))
deriving instance Inhabited, DecidableEq for Pth
theorem lZ {la : cF} {s : Sm} {w : Pw} {g : Gs} : (bo la s w g).2.paths = g.paths := by
 unfold bo
 split
 rfl
 split
 split <;> rfl
 split
 rfl
 split
 rfl
 split <;> rfl
theorem qT (p : Pm) : iO p = eN p := by
 unfold iO eN
 rw [uZ]
 cases po p.body <;> cases bW p.pre 6 <;> rfl
theorem yL {p : Pm} (hp : iO p = true) : ∃ t, PtOk p t ∧ t8 p.body = t.d := by
 have htb : po p.body = true := by
  have h := hp
  rw [qT] at h
  unfold eN at h; simp only [bM] at h; exact h.1
 obtain ⟨t, g1, g2, g3⟩ := lD htb
 have hc := oi (show cb (p.body.length + 1) p.body 0 = some (t, p.body.length) from g1)
 unfold iO gx at hp
 simp only [bM, decide_eq_true_eq] at hp
 obtain ⟨q1, ⟨⟨⟨q2, q3⟩, q4, q5⟩, q6⟩⟩ := hp
 refine ⟨t, ⟨by omega, g1, hc.2.1, by have := hc.2.2; omega, fun k hk => ?_, q1, q6⟩, g3⟩
 rw [aM hk]
 exact List.all_eq_true.1 q4 _ (List.getElem_mem hk)
theorem wl {p : Pm} {t : Tr} (ht : PtOk p t) : (p.pre :: (gD t).lp.map (·.s.facts)).length = ba p.body p.body.length + 1 := by
 have : (gD t).lp.length = ba p.body p.body.length := (ky ht.tree).1.len
 rw [iX, cw, this]
theorem zr {L : Nat} (h1 : 4096 ≤ L) (h2 : L ≤ 1073741824) (hL : 600000000 ≤ L) {p : Pm} {t : Tr} (ht : PtOk p t) : MC Tryz.prog L 47 [.c (.pt 0 0 0), eB true, eI 0, .c (.fb 48 [.pt 0 0 0])] (vK p t g0) (aS (eB (!(ii p t (ba p.body p.body.length + 1)).bad)) (u7 p t (ii p t (ba p.body p.body.length + 1)))) := by
 have hl := wl ht
 have hnl := fP (b := p.body) (k := p.body.length)
 have hlen := ht.len
 have hst : ∀ i, (ii p t i).bad = true → ii p t (i + 1) = ii p t i := fun i h => by rw [ii, jm, mF h]
 have hok : ∀ i, i ≤ ba p.body p.body.length + 1 → GOk (i * 16252928) (ii p t i) := fun i hi => by
  induction i with
  | zero => rw [ii]; exact sC.le (dF _)
  | succ i ih =>
    rw [ii, jm]
    exact (ow ht.e ht.tree ht.nodes (by omega) (ih (by omega))).le (by omega)
 have := w4 (p := p) (t := t) (k := 0) (al := ii p t) h1 h2 (by omega) hst Z (fun i hi hb => by
  rw [ii]
  exact zl h1 h2 ht (by omega) (hok i (by omega)) (by omega))
 rw [hl] at this
 exact this
end Go.Al
