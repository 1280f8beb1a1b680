/- Both gather the same. -/
import Derived.Test.YtbkloknmpkgmbaaGreatR
import Derived.Test.YtbkloknmpkgmbaaGreatH
set_option linter.unusedVariables false
set_option linter.unusedSimpArgs false
set_option maxRecDepth 10000
set_option maxHeartbeats 4000000
open Go.Proofs
namespace Go.Al
variable {L : Nat} (h1 : 4096 ≤ L) (h2 : L ≤ 1073741824)
theorem qe {t : Tm} : aX t = if (iy [⟨7, []⟩, t] [1, -1]).ok = true then (iy [⟨7, []⟩, t] [1, -1], true) else (⟨0, []⟩, false) := by
 unfold aX rc ns
 have h1 : (1 * (⟨7, []⟩ : Tm).c + -1 * t.c) = cF Tm.c [⟨7, []⟩, t] [1, -1] := by
  simp only [cF] <;> omega
 have h2 : i5 ⟨7, []⟩ 1 t (-1) = cx [⟨7, []⟩, t] [1, -1] := by
  unfold i5 cx
  apply List.map_congr_left
  intro k _
  simp only [cF, oq] <;> omega
 rw [h1, h2]
theorem rD : LaEq bF aX := by
 refine ⟨fun t _ => ?_, fun t _ h => ?_⟩
 rw [qe]; unfold bF; dsimp only
 cases h : (iy [⟨7, []⟩, t] [1, -1]).ok <;> simp
 have h : (iy [⟨7, []⟩, t] [1, -1]).ok = true := h
 rw [qe, if_pos h]; rfl
structure Sim (P : List Pth) (C : List Sq) (g h : Gs) : Prop where
  ok : g.bad = false → h.bad = false ∧ g.paths = P ++ h.paths ∧ g.conds = C ++ h.conds ∧ g.paths.length ≤ 200
  bad : g.bad = true → h.bad = true ∨ 200 < P.length + h.paths.length
theorem Sim.flag {P C g h} (s : Sim P C g h) {b : Bool} : Sim P C (g.flag b) (h.flag b) := by
 refine ⟨fun e => ?_, fun e => ?_⟩
 simp only [Gs.flag, Bool.or_eq_false_iff] at e ⊢
 have := s.ok e.1
 exact ⟨⟨this.1, e.2⟩, this.2⟩
 simp only [Gs.flag, Bool.or_eq_true] at e ⊢
 rcases e with e | e
 exact (s.bad e).imp .inl id
 exact .inl (.inr e)
theorem Sim.goal {P C g h} (s : Sim P C g h) {w : Pw} {t : Tm} : Sim P C (g.goal w t) (h.goal w t) :=
  ⟨fun e => by
 have := s.ok e
 exact ⟨this.1, this.2.1, by simp only [Gs.goal, this.2.2.1, eV], this.2.2.2⟩, fun e => s.bad e⟩
theorem Sim.path {P C g h} (s : Sim P C g h) {frm : Int} {w : Pw} {to : Int} : Sim P C (fT frm w to g) (fT frm w to h) := by
 refine ⟨fun e => ?_, fun e => ?_⟩
 simp only [fT, Bool.or_eq_false_iff, decide_eq_false_iff_not] at e ⊢
 have := s.ok e.1
 have hl := congrArg List.length this.2.1
 rw [dk] at hl
 refine ⟨⟨this.1, by omega⟩, by rw [this.2.1, eV], this.2.2.1, ?_⟩
 rw [dk, iw]; omega
 simp only [fT, Bool.or_eq_true, decide_eq_true_eq] at e ⊢
 rw [dk, iw]
 cases hb : g.bad with
 | true =>
  rcases s.bad hb with h1 | h1
  exact .inl (.inl h1)
  exact .inr (by omega)
 | false =>
  have := s.ok hb
  have hl := congrArg List.length this.2.1
  rw [dk] at hl
  rcases e with e | e
  rw [hb] at e; cases e
  exact .inr (by omega)
theorem Sim.fold {P C} {w : Pw} : ∀ {fs : List Tm} {g h : Gs}, Sim P C g h → Sim P C (fs.foldl (bg w) g) (fs.foldl (bg w) h)
 | [], g, h, s => s
 | t :: fs, g, h, s => Sim.fold (fs := fs) (s.flag.goal : Sim P C (bg w g t) (bg w h t))
theorem Sim.end {P C g h} (s : Sim P C g h) {frm : Int} {w : Pw} {to : Int} {fs : List Tm} : Sim P C (cO frm w to fs g) (cO frm w to fs h) := s.fold.path
theorem Sim.cell {la : cB} {P C g h} (s : Sim P C g h) {w : Pw} {t : Tm} : Sim P C (bV la w t g) (bV la w t h) := s.flag.goal.flag.goal
theorem Sim.leaf {la : cB} {P C g h} (s : Sim P C g h) {m : Sm} {w : Pw} : (bu la m w g).1 = (bu la m w h).1 ∧ Sim P C (bu la m w g).2 (bu la m w h).2 := by
 unfold bu
 split
 exact ⟨Z, s.flag⟩
 split
 split
 exact ⟨Z, s.cell.flag⟩
 exact ⟨Z, s.cell⟩
 split
 exact ⟨Z, s.cell⟩
 split
 exact ⟨Z, s⟩
 split
 exact ⟨Z, s.flag.goal.flag⟩
 exact ⟨Z, s⟩
def Grow (g h : Gs) : Prop := g.paths.length ≤ h.paths.length ∧ (g.bad = true → h.bad = true)
theorem Grow.refl {g : Gs} : Grow g g := ⟨cz _, id⟩
theorem Grow.trans {g h k : Gs} (a : Grow g h) (b : Grow h k) : Grow g k := ⟨Nat.le_trans a.1 b.1, fun e => b.2 (a.2 e)⟩
theorem Grow.flag {g : Gs} {b : Bool} : Grow g (g.flag b) := ⟨cz _, fun e => by simp [Gs.flag, e]⟩
theorem Grow.goal {g : Gs} {w : Pw} {t : Tm} : Grow g (g.goal w t) := ⟨cz _, id⟩
theorem Grow.end {g : Gs} {frm : Int} {w : Pw} {to : Int} {fs : List Tm} : Grow g (cO frm w to fs g) :=
  ⟨by
    have h3 := congrArg List.length (ea (fs := fs) (w := w) (g := g))
    simp only [cO, fT, dk, iw]; omega, fun e => tI e⟩
theorem Grow.leaf {la : cB} {g : Gs} {m : Sm} {w : Pw} : Grow g (bu la m w g).2 := by
 unfold bu
 split
 exact .flag
 split
 split
 exact ((Grow.flag.trans .goal).trans .flag).trans (Grow.goal.trans .flag)
 exact ((Grow.flag.trans .goal).trans .flag).trans .goal
 split
 exact ((Grow.flag.trans .goal).trans .flag).trans .goal
 split
 exact .refl
 split
 exact (Grow.flag.trans .goal).trans .flag
 exact .refl
theorem gG {la : cB} {E : Pe} {frm : Int} : ∀ {n : Nat} {r : List Fr} {w : Pw} {g : Gs}, Grow g (dH la E frm n r w g)
 | 0, r, w, g => .refl
 | n + 1, r, w, g => by
  cases hb : g.bad with
  | true => rw [cf hb]; exact .refl
  | false =>
   match r with
   | [] => rw [eN hb]; exact .end
   | .lp k :: r => rw [f7 hb]; exact .end
   | .st (.node s a []) :: r => rw [dO hb]; exact Grow.leaf.trans gG
   | .st (.node s a [x]) :: r => rw [f6 hb]; exact .end
   | .st (.node s a [x, y]) :: r =>
    by_cases hk : s.kind = 1
    rw [eM hb hk]; exact gG
    rw [f8 hb hk, c6]
    exact ((Grow.flag.trans .flag).trans .flag).trans (gG.trans gG)
   | .st (.node s a (x :: y :: z :: ks)) :: r => rw [fW hb]; exact Grow.leaf.trans gG
theorem Sim.grow {P C g h k} (s : Sim P C g h) (hg : g.bad = true) (a : Grow h k) : Sim P C g k :=
  ⟨fun e => absurd (hg.symm.trans e) (by decide), fun _ => (s.bad hg).imp a.2 (fun h => by have := a.1; omega)⟩
theorem fA {la : cB} {E : Pe} {frm : Int} {P C} : ∀ {n : Nat} {r : List Fr} {w : Pw} {g h : Gs}, Sim P C g h → Sim P C (dH la E frm n r w g) (dH la E frm n r w h)
 | 0, r, w, g, h, s => s
 | n + 1, r, w, g, h, s => by
  cases hb : g.bad with
  | true => rw [cf hb]; exact s.grow hb gG
  | false =>
   have hc := (s.ok hb).1
   match r with
   | [] => rw [eN hb, eN hc]; exact s.end
   | .lp k :: r => rw [f7 hb, f7 hc]; exact s.end
   | .st (.node m a []) :: r =>
    rw [dO hb, dO hc, (s.leaf (la := la) (m := m) (w := w)).1]
    exact fA s.leaf.2
   | .st (.node m a [x]) :: r => rw [f6 hb, f6 hc]; exact s.end
   | .st (.node m a [x, y]) :: r =>
    by_cases hk : m.kind = 1
    rw [eM hb hk, eM hc hk]; exact fA s
    rw [f8 hb hk, f8 hc hk]
    exact fA (fA s.flag.flag.flag)
   | .st (.node m a (x :: y :: z :: ks)) :: r =>
    rw [fW hb, fW hc, (s.leaf (la := la) (m := m) (w := w)).1]
    exact fA s.leaf.2
theorem l9 {la : cB} {E : Pe} {b : List Sm} {t : Tr} {pre : List Tm} {P C} {n : Nat} {g h : Gs} (s : Sim P C g h) : Sim P C (bX la E b t pre n g) (bX la E b t pre n h) := by
 cases n with
 | zero => rw [bX, bX]; exact fA s
 | succ n => rw [bX, bX, c6, c6, aS, aS]; exact fA (fA s.flag.flag.flag)
theorem sl {E : Pe} {b : List Sm} {t : Tr} {pre : List Tm} {n : Nat} {g : Gs} : GEq (bX bF E b t pre n g) (bX aX E b t pre n g) := by
 cases n with
 | zero => rw [bX, bX]; exact gB rD .refl
 | succ n => rw [bX, bX, c6, c6]; exact gB rD (gB rD .refl)
theorem jR {la : cB} {E : Pe} {b : List Sm} {t : Tr} {pre : List Tm} {n : Nat} {g : Gs} (h : g.bad = true) : bX la E b t pre n g = g := by
 cases n with
 | zero => rw [bX]; exact cf h
 | succ n => rw [bX, c6, aS, ju h, ju h, ju h, cf h, cf h]
def eA (p : Pm) (t : Tr) : Nat → Gs
  | 0 => g0
  | i + 1 => gx bF p t i (eA p t i)
def fm (p : Pm) (t : Tr) : Nat → Gs
  | 0 => g0
  | i + 1 => if (fm p t i).bad = true then fm p t i else ⟨(fm p t i).paths ++ (gx aX p t i g0).paths, (fm p t i).conds ++ (gx aX p t i g0).conds, (gx aX p t i g0).bad || decide (200 < ((fm p t i).paths ++ (gx aX p t i g0).paths).length)⟩
theorem pZ {p : Pm} {t : Tr} : ∀ n, GEq (eA p t n) (fm p t n) ∧ ((eA p t n).bad = false → (eA p t n).paths.length ≤ 200)
 | 0 => ⟨by rw [eA, fm]; exact .refl, fun _ => by rw [eA]; exact dm _⟩
 | n + 1 => by
  obtain ⟨e, hl⟩ := pZ (p := p) (t := t) n
  rw [eA, fm]
  cases hb : (eA p t n).bad with
  | true =>
   rw [if_pos (by rw [← e.bad]; exact hb), gx, jR hb]
   exact ⟨e, fun h => by rw [hb] at h; cases h⟩
  | false =>
   have ha := e.eq hb
   rw [← ha, if_neg (by rw [hb]; decide)]
   have s0 : Sim (eA p t n).paths (eA p t n).conds (eA p t n) g0 := ⟨fun _ => ⟨rfl, by simp [g0], by simp [g0], hl hb⟩, fun h => absurd (hb.symm.trans h) (by decide)⟩
   have s := l9 (la := bF) (E := nn p.body p.post) (b := p.body) (t := t) (pre := p.pre) (n := n) s0
   have q := sl (E := nn p.body p.post) (b := p.body) (t := t) (pre := p.pre) (n := n) (g := g0)
   unfold gx
   generalize bX bF (nn p.body p.post) p.body t p.pre n (eA p t n) = x at s ⊢
   generalize bX bF (nn p.body p.post) p.body t p.pre n g0 = y at s q
   generalize bX aX (nn p.body p.post) p.body t p.pre n g0 = z at q ⊢
   refine ⟨?_, fun h => (s.ok h).2.2.2⟩
   cases hc : x.bad with
   | false =>
    obtain ⟨a1, a2, a3, a4⟩ := s.ok hc
    have a5 := q.eq a1
    subst a5
    rw [← a2, ← a3, a1, decide_eq_false (show ¬ 200 < x.paths.length by omega)]
    have e : (⟨x.paths, x.conds, false || false⟩ : Gs) = x := by cases x; simp only at hc; subst hc; rfl
    rw [e]
    exact .refl
   | true =>
    refine .of hc ?_
    have : z.bad = true ∨ 200 < ((eA p t n).paths ++ z.paths).length := by
     cases hd : y.bad with
     | true => exact .inl (by rw [← q.bad]; exact hd)
     | false =>
      have a6 := q.eq hd
      subst a6
      rcases s.bad hc with h | h
      exact .inl h
      exact .inr (by rw [dk]; exact h)
    rcases this with h | h
    simp [h]
    simp only [decide_eq_true h, Bool.or_true]
theorem nL {b : List Sm} {t : Tr} (hT : bM b 0 = some (t, b.length)) : (∃ fl i, Pl b fl i [.st t]) ∧ ∀ n, n < aT b b.length → (∃ fl i, Pl b fl i [.st ((aU b t []).getD n default).x, .lp n]) ∧ (∃ fl i, Pl b fl i ((aU b t []).getD n default).r) := by
 have hB := eu hT (nx := -1) (f := []) (r := []) .nil
 refine ⟨⟨_, _, hB.pl⟩, fun n hn => ?_⟩
 obtain ⟨hq, hqa⟩ := jc hT hn
 obtain ⟨i, _, h1, h2, h3, h4⟩ := hB.all _ hq
 rw [hqa] at h3
 exact ⟨⟨_, _, h3⟩, ⟨_, _, h4⟩⟩
theorem nM {la : cB} {E : Pe} {b : List Sm} {t : Tr} {pre : List Tm} (hE : EOk E b) (hT : bM b 0 = some (t, b.length)) (hnd : t.nodes ≤ 30) {n c : Nat} (hn : n ≤ aT b b.length) {g : Gs} (hg : GOk c g) : GOk (c + 16252928) (bX la E b t pre n g) := by
 obtain ⟨⟨fl, i, p0⟩, hl⟩ := nL hT
 have e0 : aF [] = 0 := rfl
 have h30 := mN
 cases n with
 | zero =>
  rw [bX]
  have hm := bS (m := aF [.st t]) (n := 30) (by show t.nodes + 0 ≤ 30; omega)
  exact (eZ hE p0 hg).le (by omega)
 | succ n =>
  obtain ⟨⟨f1, i1, p1⟩, ⟨f2, i2, p2⟩⟩ := hl n (by omega)
  have hsz := (qZ hT (r := [])).size _ (jc hT (n := n) (by omega)).1
  have hm1 := bS (m := aF [.st ((aU b t []).getD n default).x, .lp n]) (n := 30) (by show ((aU b t []).getD n default).x.nodes + 0 ≤ 30; omega)
  have hm2 := bS (m := aF ((aU b t []).getD n default).r) (n := 30) (by omega)
  rw [bX, c6, aS]
  exact (eZ hE p2 (eZ hE p1 hg.flag.flag.flag)).le (by omega)
theorem uk {L : Nat} (h1 : 4096 ≤ L) (h2 : L ≤ 1073741824) {p : Pm} {t : Tr} (ht : PtOk p t) {n c : Nat} (hn : n ≤ aT p.body p.body.length) {g : Gs} (hg : GOk c g) (hL : c + 16252928 ≤ L) : MC Tryz.prog L 77 [.c (.pt 0 0 0), eI ((n : Int) - 1)] (sZ p t g) (aV (.tup []) (om p t (gx bF p t n g))) := by
 have hE := ht.e
 have hbl := ht.len
 have hT := ht.tree
 have hnd := ht.nodes
 have hP := xl (pre := p.pre) (post := p.post) hT
 have hpre := (jj ht.pre).2
 obtain ⟨hp0, hl⟩ := nL hT
 have e0 : aF [] = 0 := rfl
 have h30 := mN
 have hlen : (cN t).lp.length = aT p.body p.body.length := (i7 hT).1.len
 have hnl := dL (b := p.body) (k := p.body.length)
 rw [gx]
 cases n with
 | zero =>
  have hm := bS (m := aF [.st t]) (n := 30) (by show t.nodes + 0 ≤ 30; omega)
  rw [bX]
  exact vv h1 h2 (f := p.pre) (t := t) Z (by simp) (by simp; omega) Z (by omega) Z
   (rJ h1 h2 hE (by omega) hP 31 hp0 (by show t.nodes + 0 < 31; omega) (pF (by omega)) hg (by omega))
 | succ n =>
  obtain ⟨hp1, hp2⟩ := hl n (by omega)
  obtain ⟨hq, hqa⟩ := jc hT (n := n) (by omega)
  have hat := (qZ hT (r := [])).at_ _ hq
  have hsz := (qZ hT (r := [])).size _ hq
  have hst := ht.st _ (show ((aU p.body t []).getD n default).a < p.body.length by omega)
  rw [← hat.2.2.2] at hst
  have htm := g9 hst
  have hf := fz hst
  have hqe : (cN t).lp.getD n default = (aU p.body t []).getD n default := by rw [(i7 hT).2]
  obtain ⟨q, hqL⟩ : ∃ q, (aU p.body t []).getD n default = q := ⟨_, rfl⟩
  rw [hqL] at hp1 hp2 hq hqa hat hsz hst htm hf hqe
  have hsf : (p.pre :: (cN t).lp.map (·.s.facts)).getD (n + 1) default = q.s.facts := by
   rw [List.getD_cons_succ, ← hqe]
   simp [List.getD_eq_getElem?_getD, show n < (cN t).lp.length by omega]
  have hm1 := bS (m := aF [.st q.x, .lp n]) (n := 30) (by show q.x.nodes + 0 ≤ 30; omega)
  have hm2 := bS (m := aF q.r) (n := 30) (by omega)
  have e : ((n + 1 : Nat) : Int) - 1 = (n : Nat) := by omega
  have hw := pF (n := 32) (fs := q.s.facts) (by have := hf.2; omega)
  have h8 : mB 4 = (w0 q.s.facts).vars := rfl
  rw [bX, e, hqL, h8]
  generalize hw0 : w0 q.s.facts = w at hw ⊢
  obtain ⟨f1, i1, p1⟩ := hp1
  have hg2 : GOk c (bT w (aJ q.s.sum w.vars).1 (aS w q.s.sum g)) := hg.flag.flag.flag
  have hg3 := eZ hE (la := bF) (frm := (n : Nat)) (n := 31) (w := w.fact (aJ q.s.sum w.vars).1) p1 hg2
  exact vu h1 h2 (Y := dH bF (nn p.body p.post) (n : Nat) 31 [.st q.x, .lp n]) (N := dH bF (nn p.body p.post) (n : Nat) 31 q.r) hw0 (by omega) hqe (by simp; omega) (by simp; omega) hsf (by have := hf.2; omega) htm.1 (by omega) (fun u g h => cf h) (fun u g h => cf h)
   (fun _ => rJ h1 h2 hE (by omega) hP 31 ⟨f1, i1, p1⟩ (by show q.x.nodes + 0 < 31; omega) hw.fact hg2 (by omega))
   (fun _ => rJ h1 h2 hE (by omega) hP 31 hp2 (by omega) hw.fact hg3 (by omega))
theorem sa {p : Pm} {t : Tr} (ht : PtOk p t) : ∀ n, n ≤ aT p.body p.body.length + 1 → (fm p t n).conds.length ≤ n * 16252928 ∧ ((fm p t n).bad = false → (fm p t n).paths.length ≤ 200) ∧ (n < aT p.body p.body.length + 1 → (gx aX p t n g0).paths.length ≤ 201 ∧ (gx aX p t n g0).conds.length ≤ 16252928)
 | n, hn => by
  have key : ∀ m, m ≤ aT p.body p.body.length → (gx aX p t m g0).paths.length ≤ 201 ∧ (gx aX p t m g0).conds.length ≤ 16252928 := fun m hm => by
   have h := nM (la := aX) (pre := p.pre) ht.e ht.tree ht.nodes hm pL
   exact ⟨h.paths, by have := h.conds; rw [Nat.zero_add] at this; exact this⟩
  refine ⟨?_, ?_, fun h => key n (by omega)⟩
  induction n with
  | zero => exact dm _
  | succ n ih =>
   have := ih (by omega)
   have k := (key n (by omega)).2
   rw [fm]; split
   exact Nat.le_trans this (Nat.mul_le_mul_right _ (Nat.le_succ n))
   simp only [dk]; rw [Nat.add_mul, Nat.one_mul]; exact Nat.add_le_add this k
  cases n with
  | zero => intro _; exact dm _
  | succ n =>
   rw [fm]; split
   rename_i h; intro h2; rw [h] at h2; cases h2
   intro h2
   simp only [Bool.or_eq_false_iff, decide_eq_false_iff_not] at h2
   exact Nat.le_of_not_lt h2.2
variable {p : Pm}
theorem xZ {t : Tr} (ht : PtOk p t) (hL : 600000000 ≤ L) : MQ h1 h2 43 [ptr p.data] [] (Plain (.tup [.c (.d (s8 (if (fm p t (aT p.body p.body.length + 1)).bad then [] else (fm p t (aT p.body p.body.length + 1)).paths))), .c (.d (lO (if (fm p t (aT p.body p.body.length + 1)).bad then [] else (fm p t (aT p.body p.body.length + 1)).conds))), eB (!(fm p t (aT p.body p.body.length + 1)).bad)])) := by
 refine MC.data (jB 44 h1 h2 Tryz.func43 Z Z Z fun O hF => ?_)
 have hlen := ht.len
 have hnl := dL (b := p.body) (k := p.body.length)
 have hwl := fw (b := p.body) (i := p.body.length)
 refine ag (j3 O Z Z Z (bf (AOps.heap (bC O Z Z Z) Z (av ?_))))
 refine js O Z (bf (AOps.heap (bC O Z Z Z) Z (av ?_)))
 refine js O Z (jn (ah (ag (js O Z (jn (aw (aE (X := Nat) (fun i => ⟨[(0, ptr p.data), (5, .c (.rs 905 0 (fm p t i).paths.length)), (6, .c (.rs 906 0 (fm p t i).conds.length)), (7, eI ((i : Int) - 1))], [(905, bA (fm p t i).paths), (906, bB (fm p t i).conds)]⟩) (fun i => i ≤ (aT p.body p.body.length + 1) ∧ (fm p t i).bad = false) (fun i => (aT p.body p.body.length + 1) - i) 0 (((ck 9 Z).trans (ck 10 Z)).trans (((ae 9 905 Z Z).trans (ae 10 906 Z Z)).trans (Ent.to ⟨Z, Z, Z, Z, trivial⟩ Z))) ?_ (fun i hi => ?_))))))))
 exact ⟨dm _, Z⟩
 obtain ⟨hi1, hi2⟩ := hi
 obtain ⟨k1, k2, k3⟩ := sa ht i hi1
 have k4 := k2 hi2
 refine ah (ag (j2 O Z Z (ak O Z Z Z Z (rL (pre := p.pre) (post := p.post) (b := p.body) h1 h2 (by omega)) (ac Z) Z Z Z Z (B0 := 14000) Z Z (dn O Z (js O Z (jf [15,0,5,6,7] Z (jn (af O Z Z (fun hc15 => ?_) (fun hc15 => ?_)))))))))
 refine an (ah (aw (ag (j2 O Z Z ?_))))
 have hin : i ≤ aT p.body p.body.length := by have := bp hc15; omega
 obtain ⟨k5, k6⟩ := k3 (by omega)
 have hla : ((fm p t i).paths ++ (gx aX p t i g0).paths).length = (fm p t i).paths.length + (gx aX p t i g0).paths.length := dk
 refine aq O [] (bin := []) Z Z Z Z (show MC Tryz.prog L 81 [ptr p.data, eI ((i : Int) - 1)] [] (aV (.c (.pt 0 0 0)) (gt (pP p.pre p.body p.post) (cL (ap t (-1) []).1) ((i : Int) - 1) (gx aX p t i g0))) from x2 (pre := p.pre) (b := p.body) (t := t) (E := nn p.body p.post) h1 h2 ht.len ht.tree ht.cok ht.nodes ht.e (jj ht.pre).2 (by omega) (n := i) hin) Z Z Z Z Z Z (B0 := 21000) Z Z (av ?_)
 refine js O Z (jf [8,15,0,5,6,7] Z (bf (j4 O Z Z Z Z (js O Z (jf [25,21,8,15,0,5,6,7] Z (AOps.heap (bh (own := false) (xs := (fm p t i).paths.map Pth.cells) (ys := (gx aX p t i g0).paths.map Pth.cells) (zs := ((fm p t i).paths ++ (gx aX p t i g0).paths).map Pth.cells) (n := ((fm p t i).paths ++ (gx aX p t i g0).paths).length) O Z Z Z Z Z Z Z Z Z Z Z Z Z Z Z Z (.row Z (cY _).symm) (.whole Z (by simp) (.inr ⟨Z, Z⟩)) (by simp) Z (by simp; omega) (by simp; omega) (by simp) (by simp)) Z (av ?_)))))))
 refine av ?_
 refine js O Z (jf [5,8,15,0,6,7] Z (bf (j4 O Z Z Z Z (js O Z (jf [31,27,5,8,15,0,6,7] Z (AOps.heap (bh (own := false) (xs := (fm p t i).conds.map Sq.cells) (ys := (gx aX p t i g0).conds.map Sq.cells) (zs := ((fm p t i).conds ++ (gx aX p t i g0).conds).map Sq.cells) (n := ((fm p t i).conds ++ (gx aX p t i g0).conds).length) O Z Z Z Z Z Z Z Z Z Z Z Z Z Z Z Z (.row Z (cY _).symm) (.whole Z (by simp) (.inr ⟨Z, Z⟩)) (by simp) Z (by simp; omega) (by simp; omega) (by simp) (by simp)) Z (av ?_)))))))
 refine av ?_
 refine js O Z (jf [6,5,8,15,0,7] Z (bf (j4 O Z Z Z Z ?_)))
 cases hb37 : (gx aX p t i g0).bad with
 | true =>
  refine js O Z (jf [37,6,5,8,15,0,7] Z (AOps.skip Z Z Z Z Z Z (AOps.skip Z Z Z Z Z Z (jf [39,37,6,5,8,15,0,7] Z (AOps.skip Z Z Z Z Z Z (aa (eT O Z Z Z Z Z) Z Z Z (jf [41,6,5,8,15,0,7] Z (jn (af O Z Z (fun hc41 => ?_) (fun hc41 => ?_))))))))))
  refine ag (j3 O Z Z Z (jr ?_))
  refine ⟨.inl Z, _, ar, _, Z, ?_⟩
  have hbad : (fm p t (i + 1)).bad = true := by rw [fm, if_neg (by rw [hi2]; decide)]; simp [hb37]
  rw [m8 (al := fm p t) (fun i h => by rw [fm, if_pos h]) hbad (n := (aT p.body p.body.length + 1)) (by have := bp hc15; omega), hbad, if_pos Z, if_pos Z]
  exact .tup (.cons (.c .nils) (.cons (.c .nils) (.cons (.c .d) .nil)))
  cases hc41
 | false =>
  refine js O Z (jf [37,6,5,8,15,0,7] Z (dS Z (js O Z (dS Z (dI O Z Z (jf [39,37,6,5,8,15,0,7] Z (dS Z (js O Z (aa (cJ O Z Z Z Z Z) Z Z Z (jf [41,6,5,8,15,0,7] Z (jn (af O Z Z (fun hc41 => ?_) (fun hc41 => ?_)))))))))))))
  refine ag (j3 O Z Z Z (jr ?_))
  refine ⟨.inl Z, _, ar, _, Z, ?_⟩
  have hbad : (fm p t (i + 1)).bad = true := by rw [fm, if_neg (by rw [hi2]; decide)]; simp only [decide_eq_true (show 200 < ((fm p t i).paths ++ (gx aX p t i g0).paths).length by have := bp hc41; omega), Bool.or_true]
  rw [m8 (al := fm p t) (fun i h => by rw [fm, if_pos h]) hbad (n := (aT p.body p.body.length + 1)) (by have := bp hc15; omega), hbad, if_pos Z, if_pos Z]
  exact .tup (.cons (.c .nils) (.cons (.c .nils) (.cons (.c .d) .nil)))
  refine an (am (js O Z (ji O Z (js O Z (jf [7,41,6,5,8,15,0] Z (jn ?_))))))
  refine ⟨i + 1, (((au [26,32] (e' := [(0, _), (5, _), (6, _), (7, _)]) Z Z ⟨Z, Z, Z, Z, trivial⟩ Z).trans (ae 26 905 Z Z)).trans (ae 32 906 Z Z)).trans (Ent.to ⟨Z, by rw [fm, if_neg (by rw [hi2]; decide)]; rfl, by rw [fm, if_neg (by rw [hi2]; decide)]; rfl, by rw [show (((i + 1 : Nat)) : Int) - 1 = ((i : Int) - 1) + 1 by omega]; rfl, trivial⟩ (by rw [fm, if_neg (by rw [hi2]; decide)]; rfl)), ⟨by omega, ?_⟩, by omega⟩
  rw [fm, if_neg (by rw [hi2]; decide)]
  simp only [hb37, decide_eq_false (show ¬ 200 < ((fm p t i).paths ++ (gx aX p t i g0).paths).length by have := ch hc41; omega)]; rfl
 refine bt (ag (j4 O Z Z Z Z (js O Z (jf [4,3,2,15,0,5,6,7] Z (jr ?_)))))
 refine ⟨.inl Z, _, ar, _, Z, ?_⟩
 obtain rfl : i = (aT p.body p.body.length + 1) := by have := ch hc15; omega
 rw [hi2, if_neg (by decide), if_neg (by decide)]
 exact .tup (.cons (.c (.whole Z (cY _).symm)) (.cons (.c (.whole Z (cY _).symm)) (.cons (.c .d) .nil)))
variable {ps : List Pth} {cs : List Sq}
theorem vL (hp : eJ p = true) (hA : MQ h1 h2 43 [ptr p.data] [] (Plain (.tup [.c (.d (s8 ps)), .c (.d (lO cs)), eB true]))) (hc : dR cs = true) : MQ h1 h2 18 [fo p] [] (Plain (.tup [.c (.d (lO cs)), eB true])) := by
 refine MC.data (jB 22 h1 h2 Tryz.func18 Z Z Z fun O hF => ?_)
 refine ag (jx O Z (av ?_))
 refine aj (Ent.freeze 1 (e' := [(1, _), (0, _)]) Z (.cons Z (.c (.box (cs := Pm.data p) Z (aI Z))) (fe [0] Z)) (.skip .nil)) ?_
 refine av ?_
 refine j2 O Z Z (jn (ah (ag (aA O Z Z Z Z ((yj (p := p) h1 h2).plain (u := eB true) (by rw [hp])) (ac Z) Z Z Z Z Z (B0 := 8000) Z (js O Z (jn (af O Z Z (fun hc8 => ?_) (fun hc8 => ?_))))))))
 cases hc8
 refine an (ag (ak O Z Z Z Z (hA) (ac Z) Z Z Z Z (B0 := 11000) Z Z (j4 O Z Z Z Z (j3 O Z Z Z (jf [6,5,7,3,2,1,0] Z (jn (ah (ag (j3 O Z Z Z (jf [16,5,7,3,2,1,0] Z (dS Z (js O Z (dS Z (aA O Z Z Z Z ((um (ss := cs) h1 h2).plain (u := eB true) (by rw [hc])) (ac Z) Z Z Z Z Z (B0 := 19000) Z (jf [18,16,5,7,3,2,1,0] Z (dS Z (js O Z (aa (aQ O Z Z Z Z Z) Z Z Z (jf [20,5,7,3,2,1,0] Z (jn (af O Z Z (fun hc20 => ?_) (fun hc20 => ?_))))))))))))))))))))))
 exact absurd hc20 (by decide)
 refine an (ag (j3 O Z Z Z (jf [3,2,5,7,1,0] Z (jr ?_))))
 refine ⟨.inl Z, _, ar, _, Z, ?_⟩
 exact .tup (.cons (.c .d) (.cons (.c .d) .nil))
theorem vM (hp : eJ p = true) (hA : MQ h1 h2 43 [ptr p.data] [] (Plain (.tup [.c (.d (s8 ps)), .c (.d (lO cs)), eB true]))) (hc : dR cs = false) : MQ h1 h2 18 [fo p] [] (Plain (.tup [.c (.d (lO [])), eB false])) := by
 refine MC.data (jB 22 h1 h2 Tryz.func18 Z Z Z fun O hF => ?_)
 refine ag (jx O Z (av ?_))
 refine aj (Ent.freeze 1 (e' := [(1, _), (0, _)]) Z (.cons Z (.c (.box (cs := Pm.data p) Z (aI Z))) (fe [0] Z)) (.skip .nil)) ?_
 refine av ?_
 refine j2 O Z Z (jn (ah (ag (aA O Z Z Z Z ((yj (p := p) h1 h2).plain (u := eB true) (by rw [hp])) (ac Z) Z Z Z Z Z (B0 := 8000) Z (js O Z (jn (af O Z Z (fun hc8 => ?_) (fun hc8 => ?_))))))))
 cases hc8
 refine an (ag (ak O Z Z Z Z (hA) (ac Z) Z Z Z Z (B0 := 11000) Z Z (j4 O Z Z Z Z (j3 O Z Z Z (jf [6,5,7,3,2,1,0] Z (jn (ah (ag (j3 O Z Z Z (jf [16,5,7,3,2,1,0] Z (dS Z (js O Z (dS Z (aA O Z Z Z Z ((um (ss := cs) h1 h2).plain (u := eB false) (by rw [hc])) (ac Z) Z Z Z Z Z (B0 := 19000) Z (jf [18,16,5,7,3,2,1,0] Z (dS Z (js O Z (aa (aQ O Z Z Z Z Z) Z Z Z (jf [20,5,7,3,2,1,0] Z (jn (af O Z Z (fun hc20 => ?_) (fun hc20 => ?_))))))))))))))))))))))
 refine ag (j2 O Z Z (jr ?_))
 refine ⟨.inl Z, _, ar, _, Z, ?_⟩
 exact .tup (.cons (.c .nils) (.cons (.c .d) .nil))
 exact absurd hc20 (by decide)
theorem vO (hp : eJ p = true) (hA : MQ h1 h2 43 [ptr p.data] [] (Plain (.tup [.c (.d (s8 ps)), .c (.d (lO cs)), eB false]))) : MQ h1 h2 18 [fo p] [] (Plain (.tup [.c (.d (lO [])), eB false])) := by
 refine MC.data (jB 22 h1 h2 Tryz.func18 Z Z Z fun O hF => ?_)
 refine ag (jx O Z (av ?_))
 refine aj (Ent.freeze 1 (e' := [(1, _), (0, _)]) Z (.cons Z (.c (.box (cs := Pm.data p) Z (aI Z))) (fe [0] Z)) (.skip .nil)) ?_
 refine av ?_
 refine j2 O Z Z (jn (ah (ag (aA O Z Z Z Z ((yj (p := p) h1 h2).plain (u := eB true) (by rw [hp])) (ac Z) Z Z Z Z Z (B0 := 8000) Z (js O Z (jn (af O Z Z (fun hc8 => ?_) (fun hc8 => ?_))))))))
 cases hc8
 refine an (ag (ak O Z Z Z Z (hA) (ac Z) Z Z Z Z (B0 := 11000) Z Z (j4 O Z Z Z Z (j3 O Z Z Z (jf [6,5,7,3,2,1,0] Z (jn (ah (ag (j3 O Z Z Z (jf [16,5,7,3,2,1,0] Z (AOps.skip Z Z Z Z Z Z (AOps.skip Z Z Z Z Z Z (jf [18,16,5,7,3,2,1,0] Z (AOps.skip Z Z Z Z Z Z (aa (eT O Z Z Z Z Z) Z Z Z (jf [20,5,7,3,2,1,0] Z (jn (af O Z Z (fun hc20 => ?_) (fun hc20 => ?_)))))))))))))))))))
 refine ag (j2 O Z Z (jr ?_))
 refine ⟨.inl Z, _, ar, _, Z, ?_⟩
 exact .tup (.cons (.c .nils) (.cons (.c .d) .nil))
 exact absurd hc20 (by decide)
deriving instance Inhabited, DecidableEq for Pth
theorem lz {la : cB} {s : Sm} {w : Pw} {g : Gs} : (bu la s w g).2.paths = g.paths := by
 unfold bu
 split
 rfl
 split
 split <;> rfl
 split
 rfl
 split
 rfl
 split <;> rfl
theorem qd (p : Pm) : eJ p = eD p := by
 unfold eJ eD
 rw [tS]
 cases qW p.body <;> cases bz p.pre 6 <;> rfl
theorem xk {p : Pm} (hp : eJ p = true) : ∃ t, PtOk p t ∧ qn p.body = t.d := by
 have htb : qW p.body = true := by
  have h := hp
  rw [qd] at h
  unfold eD at h; simp only [bJ] at h; exact h.1
 obtain ⟨t, g1, g2, g3⟩ := nJ htb
 have hc := nH (show bU (p.body.length + 1) p.body 0 = some (t, p.body.length) from g1)
 unfold eJ gn at hp
 simp only [bJ, decide_eq_true_eq] at hp
 obtain ⟨q1, ⟨⟨⟨q2, q3⟩, q4, q5⟩, q6⟩⟩ := hp
 refine ⟨t, ⟨by omega, g1, hc.2.1, by have := hc.2.2; omega, fun k hk => ?_, q1, q6⟩, g3⟩
 rw [aK hk]
 exact List.all_eq_true.1 q4 _ (List.getElem_mem hk)
theorem kS {p : Pm} {t : Tr} (ht : PtOk p t) : (p.pre :: (cN t).lp.map (·.s.facts)).length = aT p.body p.body.length + 1 := by
 have : (cN t).lp.length = aT p.body p.body.length := (i7 ht.tree).1.len
 rw [iV, cY, this]
theorem uV {p : Pm} {t : Tr} (ht : PtOk p t) (k : Int) : gp (-1) (((p.pre :: (cN t).lp.map (·.s.facts)).length : Int) - 2) k = yi p k := by
 rw [kS ht]
 unfold gp yi
 rw [show ((aT p.body p.body.length + 1 : Nat) : Int) - 2 = (aT p.body p.body.length : Int) - 1 by omega]
abbrev gI (p : Pm) (t : Tr) (n : Nat) : Gs := gx bF p t n g0
theorem xm {L : Nat} (h1 : 4096 ≤ L) (h2 : L ≤ 1073741824) (hL : 600000000 ≤ L) {p : Pm} {t : Tr} (ht : PtOk p t) {n : Nat} (hn : n ≤ aT p.body p.body.length) : MC Tryz.prog L 76 [.c (.pt 0 0 0), eB false, eI ((n : Int) - 1), .c (.fb 77 [.pt 0 0 0])] (sZ p t g0) (aV (eB (!(gI p t n).bad)) (om p t (gI p t n))) := by
 have hl := kS ht
 have hnl := dL (b := p.body) (k := p.body.length)
 have hlen := ht.len
 exact vw h1 h2 (by omega) (by rw [uV ht]; unfold yi; rw [decide_eq_true (by omega), decide_eq_true (by omega)]; rfl)
  (uk h1 h2 ht hn pL (by omega))
theorem x4 {L : Nat} (h1 : 4096 ≤ L) (h2 : L ≤ 1073741824) (hL : 600000000 ≤ L) {p : Pm} {t : Tr} (ht : PtOk p t) : MC Tryz.prog L 76 [.c (.pt 0 0 0), eB true, eI 0, .c (.fb 77 [.pt 0 0 0])] (sZ p t g0) (aV (eB (!(eA p t (aT p.body p.body.length + 1)).bad)) (om p t (eA p t (aT p.body p.body.length + 1)))) := by
 have hl := kS ht
 have hnl := dL (b := p.body) (k := p.body.length)
 have hlen := ht.len
 have hst : ∀ i, (eA p t i).bad = true → eA p t (i + 1) = eA p t i := fun i h => by rw [eA, gx, jR h]
 have hok : ∀ i, i ≤ aT p.body p.body.length + 1 → GOk (i * 16252928) (eA p t i) := fun i hi => by
  induction i with
  | zero => rw [eA]; exact pL.le (dm _)
  | succ i ih =>
    rw [eA, gx]
    exact (nM ht.e ht.tree ht.nodes (by omega) (ih (by omega))).le (by omega)
 have := vx (p := p) (t := t) (k := 0) (al := eA p t) h1 h2 (by omega) hst Z (fun i hi hb => by
  rw [eA]
  exact uk h1 h2 ht (by omega) (hok i (by omega)) (by omega))
 rw [hl] at this
 exact this
end Go.Al
