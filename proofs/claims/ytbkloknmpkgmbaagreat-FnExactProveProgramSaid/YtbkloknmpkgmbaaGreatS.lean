/- Both gather the same. -/
import Derived.Test.YtbkloknmpkgmbaaGreatR
set_option linter.unusedVariables false
set_option linter.unusedSimpArgs false
set_option maxRecDepth 10000
set_option maxHeartbeats 4000000
open Go.Proofs
namespace Go.Al
variable {L : Nat} (h1 : 4096 ≤ L) (h2 : L ≤ 1073741824)
theorem tG {t : Tm} : bh t = if (j9 [⟨7, []⟩, t] [1, -1]).ok = true then (j9 [⟨7, []⟩, t] [1, -1], true) else (⟨0, []⟩, false) := by
 unfold bh u3 oo
 have h1 : (1 * (⟨7, []⟩ : Tm).c + -1 * t.c) = cO Tm.c [⟨7, []⟩, t] [1, -1] := by
  simp only [cO] <;> omega
 have h2 : kH ⟨7, []⟩ 1 t (-1) = cx [⟨7, []⟩, t] [1, -1] := by
  unfold kH cx
  apply List.map_congr_left
  intro k _
  simp only [cO, qK] <;> omega
 rw [h1, h2]
theorem vn : LaEq cf bh := by
 refine ⟨fun t _ => ?_, fun t _ h => ?_⟩
 rw [tG]; unfold cf; dsimp only
 cases h : (j9 [⟨7, []⟩, t] [1, -1]).ok <;> simp
 have h : (j9 [⟨7, []⟩, t] [1, -1]).ok = true := h
 rw [tG, if_pos h]; rfl
structure Sim (P : List Pth) (C : List Sq) (g h : Gs) : Prop where
  ok : g.bad = false → h.bad = false ∧ g.paths = P ++ h.paths ∧ g.conds = C ++ h.conds ∧ g.paths.length ≤ 200
  bad : g.bad = true → h.bad = true ∨ 200 < P.length + h.paths.length
theorem Sim.flag {P C g h} (s : Sim P C g h) {b : Bool} : Sim P C (g.flag b) (h.flag b) := by
 refine ⟨fun e => ?_, fun e => ?_⟩
 simp only [Gs.flag, Bool.or_eq_false_iff] at e ⊢
 have := s.ok e.1
 exact ⟨⟨this.1, e.2⟩, this.2⟩
 simp only [Gs.flag, Bool.or_eq_true] at e ⊢
 rcases e with e | e
 exact (s.bad e).imp .inl id
 exact .inl (.inr e)
theorem Sim.goal {P C g h} (s : Sim P C g h) {w : Pw} {t : Tm} : Sim P C (g.goal w t) (h.goal w t) :=
  ⟨fun e => by
 have := s.ok e
 exact ⟨this.1, this.2.1, by simp only [Gs.goal, this.2.2.1, eP], this.2.2.2⟩, fun e => s.bad e⟩
theorem Sim.path {P C g h} (s : Sim P C g h) {frm : Int} {w : Pw} {to : Int} : Sim P C (iG frm w to g) (iG frm w to h) := by
 refine ⟨fun e => ?_, fun e => ?_⟩
 simp only [iG, Bool.or_eq_false_iff, decide_eq_false_iff_not] at e ⊢
 have := s.ok e.1
 have hl := congrArg List.length this.2.1
 rw [ce] at hl
 refine ⟨⟨this.1, by omega⟩, by rw [this.2.1, eP], this.2.2.1, ?_⟩
 rw [ce, dj]; omega
 simp only [iG, Bool.or_eq_true, decide_eq_true_eq] at e ⊢
 rw [ce, dj]
 cases hb : g.bad with
 | true =>
  rcases s.bad hb with h1 | h1
  exact .inl (.inl h1)
  exact .inr (by omega)
 | false =>
  have := s.ok hb
  have hl := congrArg List.length this.2.1
  rw [ce] at hl
  rcases e with e | e
  rw [hb] at e; cases e
  exact .inr (by omega)
theorem Sim.fold {P C} {w : Pw} : ∀ {fs : List Tm} {g h : Gs}, Sim P C g h → Sim P C (fs.foldl (bt w) g) (fs.foldl (bt w) h)
 | [], g, h, s => s
 | t :: fs, g, h, s => Sim.fold (fs := fs) (s.flag.goal : Sim P C (bt w g t) (bt w h t))
theorem Sim.end {P C g h} (s : Sim P C g h) {frm : Int} {w : Pw} {to : Int} {fs : List Tm} : Sim P C (dw frm w to fs g) (dw frm w to fs h) := s.fold.path
theorem Sim.cell {la : dp} {P C g h} (s : Sim P C g h) {w : Pw} {t : Tm} : Sim P C (cr la w t g) (cr la w t h) := s.flag.goal.flag.goal
theorem Sim.leaf {la : dp} {P C g h} (s : Sim P C g h) {m : Sm} {w : Pw} : (bT la m w g).1 = (bT la m w h).1 ∧ Sim P C (bT la m w g).2 (bT la m w h).2 := by
 unfold bT
 split
 exact ⟨Z, s.flag⟩
 split
 split
 exact ⟨Z, s.cell.flag⟩
 exact ⟨Z, s.cell⟩
 split
 exact ⟨Z, s.cell⟩
 split
 exact ⟨Z, s⟩
 split
 exact ⟨Z, s.flag.goal.flag⟩
 exact ⟨Z, s⟩
def Grow (g h : Gs) : Prop := g.paths.length ≤ h.paths.length ∧ (g.bad = true → h.bad = true)
theorem Grow.refl {g : Gs} : Grow g g := ⟨cC _, id⟩
theorem Grow.trans {g h k : Gs} (a : Grow g h) (b : Grow h k) : Grow g k := ⟨Nat.le_trans a.1 b.1, fun e => b.2 (a.2 e)⟩
theorem Grow.flag {g : Gs} {b : Bool} : Grow g (g.flag b) := ⟨cC _, fun e => by simp [Gs.flag, e]⟩
theorem Grow.goal {g : Gs} {w : Pw} {t : Tm} : Grow g (g.goal w t) := ⟨cC _, id⟩
theorem Grow.end {g : Gs} {frm : Int} {w : Pw} {to : Int} {fs : List Tm} : Grow g (dw frm w to fs g) :=
  ⟨by
    have h3 := congrArg List.length (f9 (fs := fs) (w := w) (g := g))
    simp only [dw, iG, ce, dj]; omega, fun e => xP e⟩
theorem Grow.leaf {la : dp} {g : Gs} {m : Sm} {w : Pw} : Grow g (bT la m w g).2 := by
 unfold bT
 split
 exact .flag
 split
 split
 exact ((Grow.flag.trans .goal).trans .flag).trans (Grow.goal.trans .flag)
 exact ((Grow.flag.trans .goal).trans .flag).trans .goal
 split
 exact ((Grow.flag.trans .goal).trans .flag).trans .goal
 split
 exact .refl
 split
 exact (Grow.flag.trans .goal).trans .flag
 exact .refl
theorem ja {la : dp} {E : Pe} {frm : Int} : ∀ {n : Nat} {r : List Fr} {w : Pw} {g : Gs}, Grow g (eA la E frm n r w g)
 | 0, r, w, g => .refl
 | n + 1, r, w, g => by
  cases hb : g.bad with
  | true => rw [cX hb]; exact .refl
  | false =>
   match r with
   | [] => rw [gz hb]; exact .end
   | .lp k :: r => rw [iS hb]; exact .end
   | .st (.node s a []) :: r => rw [fo hb]; exact Grow.leaf.trans ja
   | .st (.node s a [x]) :: r => rw [iR hb]; exact .end
   | .st (.node s a [x, y]) :: r =>
    by_cases hk : s.kind = 1
    rw [gy hb hk]; exact ja
    rw [iU hb hk, dC]
    exact ((Grow.flag.trans .flag).trans .flag).trans (ja.trans ja)
   | .st (.node s a (x :: y :: z :: ks)) :: r => rw [i9 hb]; exact Grow.leaf.trans ja
theorem Sim.grow {P C g h k} (s : Sim P C g h) (hg : g.bad = true) (a : Grow h k) : Sim P C g k :=
  ⟨fun e => absurd (hg.symm.trans e) (by decide), fun _ => (s.bad hg).imp a.2 (fun h => by have := a.1; omega)⟩
theorem gx {la : dp} {E : Pe} {frm : Int} {P C} : ∀ {n : Nat} {r : List Fr} {w : Pw} {g h : Gs}, Sim P C g h → Sim P C (eA la E frm n r w g) (eA la E frm n r w h)
 | 0, r, w, g, h, s => s
 | n + 1, r, w, g, h, s => by
  cases hb : g.bad with
  | true => rw [cX hb]; exact s.grow hb ja
  | false =>
   have hc := (s.ok hb).1
   match r with
   | [] => rw [gz hb, gz hc]; exact s.end
   | .lp k :: r => rw [iS hb, iS hc]; exact s.end
   | .st (.node m a []) :: r =>
    rw [fo hb, fo hc, (s.leaf (la := la) (m := m) (w := w)).1]
    exact gx s.leaf.2
   | .st (.node m a [x]) :: r => rw [iR hb, iR hc]; exact s.end
   | .st (.node m a [x, y]) :: r =>
    by_cases hk : m.kind = 1
    rw [gy hb hk, gy hc hk]; exact gx s
    rw [iU hb hk, iU hc hk]
    exact gx (gx s.flag.flag.flag)
   | .st (.node m a (x :: y :: z :: ks)) :: r =>
    rw [i9 hb, i9 hc, (s.leaf (la := la) (m := m) (w := w)).1]
    exact gx s.leaf.2
theorem uc {la : dp} {E : Pe} {b : List Sm} {t : Tr} {pre : List Tm} {P C} {n : Nat} {g h : Gs} (s : Sim P C g h) : Sim P C (cB la E b t pre n g) (cB la E b t pre n h) := by
 cases n with
 | zero => rw [cB, cB]; exact gx s
 | succ n => rw [cB, cB, dC, dC, aY, aY]; exact gx (gx s.flag.flag.flag)
theorem wr {E : Pe} {b : List Sm} {t : Tr} {pre : List Tm} {n : Nat} {g : Gs} : GEq (cB cf E b t pre n g) (cB bh E b t pre n g) := by
 cases n with
 | zero => rw [cB, cB]; exact iV vn .refl
 | succ n => rw [cB, cB, dC, dC]; exact iV vn (iV vn .refl)
theorem oQ {la : dp} {E : Pe} {b : List Sm} {t : Tr} {pre : List Tm} {n : Nat} {g : Gs} (h : g.bad = true) : cB la E b t pre n g = g := by
 cases n with
 | zero => rw [cB]; exact cX h
 | succ n => rw [cB, dC, aY, lg h, lg h, lg h, cX h, cX h]
def mQ (p : Pm) (t : Tr) : Nat → Gs
  | 0 => g0
  | i + 1 => ly cf p t i (mQ p t i)
def gi (p : Pm) (t : Tr) : Nat → Gs
  | 0 => g0
  | i + 1 => if (gi p t i).bad = true then gi p t i else ⟨(gi p t i).paths ++ (ly bh p t i g0).paths, (gi p t i).conds ++ (ly bh p t i g0).conds, (ly bh p t i g0).bad || decide (200 < ((gi p t i).paths ++ (ly bh p t i g0).paths).length)⟩
theorem yQ {p : Pm} {t : Tr} : ∀ n, GEq (mQ p t n) (gi p t n) ∧ ((mQ p t n).bad = false → (mQ p t n).paths.length ≤ 200)
 | 0 => ⟨by rw [mQ, gi]; exact .refl, fun _ => by rw [mQ]; exact ct _⟩
 | n + 1 => by
  obtain ⟨e, hl⟩ := yQ (p := p) (t := t) n
  rw [mQ, gi]
  cases hb : (mQ p t n).bad with
  | true =>
   rw [if_pos (by rw [← e.bad]; exact hb), ly, oQ hb]
   exact ⟨e, fun h => by rw [hb] at h; cases h⟩
  | false =>
   have ha := e.eq hb
   rw [← ha, if_neg (by rw [hb]; decide)]
   have s0 : Sim (mQ p t n).paths (mQ p t n).conds (mQ p t n) g0 := ⟨fun _ => ⟨rfl, by simp [g0], by simp [g0], hl hb⟩, fun h => absurd (hb.symm.trans h) (by decide)⟩
   have s := uc (la := cf) (E := rX p.body p.post) (b := p.body) (t := t) (pre := p.pre) (n := n) s0
   have q := wr (E := rX p.body p.post) (b := p.body) (t := t) (pre := p.pre) (n := n) (g := g0)
   unfold ly
   generalize cB cf (rX p.body p.post) p.body t p.pre n (mQ p t n) = x at s ⊢
   generalize cB cf (rX p.body p.post) p.body t p.pre n g0 = y at s q
   generalize cB bh (rX p.body p.post) p.body t p.pre n g0 = z at q ⊢
   refine ⟨?_, fun h => (s.ok h).2.2.2⟩
   cases hc : x.bad with
   | false =>
    obtain ⟨a1, a2, a3, a4⟩ := s.ok hc
    have a5 := q.eq a1
    subst a5
    rw [← a2, ← a3, a1, decide_eq_false (show ¬ 200 < x.paths.length by omega)]
    have e : (⟨x.paths, x.conds, false || false⟩ : Gs) = x := by cases x; simp only at hc; subst hc; rfl
    rw [e]
    exact .refl
   | true =>
    refine .of hc ?_
    have : z.bad = true ∨ 200 < ((mQ p t n).paths ++ z.paths).length := by
     cases hd : y.bad with
     | true => exact .inl (by rw [← q.bad]; exact hd)
     | false =>
      have a6 := q.eq hd
      subst a6
      rcases s.bad hc with h | h
      exact .inl h
      exact .inr (by rw [ce]; exact h)
    rcases this with h | h
    simp [h]
    simp only [decide_eq_true h, Bool.or_true]
theorem rc {b : List Sm} {t : Tr} (hT : bZ b 0 = some (t, b.length)) : (∃ fl i, Pl b fl i [.st t]) ∧ ∀ n, n < bf b b.length → (∃ fl i, Pl b fl i [.st ((ba b t []).getD n default).x, .lp n]) ∧ (∃ fl i, Pl b fl i ((ba b t []).getD n default).r) := by
 have hB := ft hT (nx := -1) (f := []) (r := []) .nil
 refine ⟨⟨_, _, hB.pl⟩, fun n hn => ?_⟩
 obtain ⟨hq, hqa⟩ := kQ hT hn
 obtain ⟨i, _, h1, h2, h3, h4⟩ := hB.all _ hq
 rw [hqa] at h3
 exact ⟨⟨_, _, h3⟩, ⟨_, _, h4⟩⟩
theorem rd {la : dp} {E : Pe} {b : List Sm} {t : Tr} {pre : List Tm} (hE : EOk E b) (hT : bZ b 0 = some (t, b.length)) (hnd : t.nodes ≤ 30) {n c : Nat} (hn : n ≤ bf b b.length) {g : Gs} (hg : GOk c g) : GOk (c + 16252928) (cB la E b t pre n g) := by
 obtain ⟨⟨fl, i, p0⟩, hl⟩ := rc hT
 have e0 : aK [] = 0 := rfl
 have h30 := pW
 cases n with
 | zero =>
  rw [cB]
  have hm := cj (m := aK [.st t]) (n := 30) (by show t.nodes + 0 ≤ 30; omega)
  exact (fY hE p0 hg).le (by omega)
 | succ n =>
  obtain ⟨⟨f1, i1, p1⟩, ⟨f2, i2, p2⟩⟩ := hl n (by omega)
  have hsz := (uQ hT (r := [])).size _ (kQ hT (n := n) (by omega)).1
  have hm1 := cj (m := aK [.st ((ba b t []).getD n default).x, .lp n]) (n := 30) (by show ((ba b t []).getD n default).x.nodes + 0 ≤ 30; omega)
  have hm2 := cj (m := aK ((ba b t []).getD n default).r) (n := 30) (by omega)
  rw [cB, dC, aY]
  exact (fY hE p2 (fY hE p1 hg.flag.flag.flag)).le (by omega)
theorem CC {L : Nat} (h1 : 4096 ≤ L) (h2 : L ≤ 1073741824) {p : Pm} {t : Tr} (ht : PtOk p t) {n c : Nat} (hn : n ≤ bf p.body p.body.length) {g : Gs} (hg : GOk c g) (hL : c + 16252928 ≤ L) : MC Tryz.prog L 77 [.c (.pt 0 0 0), eI ((n : Int) - 1)] (yT p t g) (bc (.tup []) (w7 p t (ly cf p t n g))) := by
 have hE := ht.e
 have hbl := ht.len
 have hT := ht.tree
 have hnd := ht.nodes
 have hP := B3 (pre := p.pre) (post := p.post) hT
 have hpre := (kU ht.pre).2
 obtain ⟨hp0, hl⟩ := rc hT
 have e0 : aK [] = 0 := rfl
 have h30 := pW
 have hlen : (iC t).lp.length = bf p.body p.body.length := (mn hT).1.len
 have hnl := fI (b := p.body) (k := p.body.length)
 rw [ly]
 cases n with
 | zero =>
  have hm := cj (m := aK [.st t]) (n := 30) (by show t.nodes + 0 ≤ 30; omega)
  rw [cB]
  exact z3 h1 h2 (f := p.pre) (t := t) Z (by simp) (by simp; omega) Z (by omega) Z
   (vq h1 h2 hE (by omega) hP 31 hp0 (by show t.nodes + 0 < 31; omega) (s9 (by omega)) hg (by omega))
 | succ n =>
  obtain ⟨hp1, hp2⟩ := hl n (by omega)
  obtain ⟨hq, hqa⟩ := kQ hT (n := n) (by omega)
  have hat := (uQ hT (r := [])).at_ _ hq
  have hsz := (uQ hT (r := [])).size _ hq
  have hst := ht.st _ (show ((ba p.body t []).getD n default).a < p.body.length by omega)
  rw [← hat.2.2.2] at hst
  have htm := jD hst
  have hf := gu hst
  have hqe : (iC t).lp.getD n default = (ba p.body t []).getD n default := by rw [(mn hT).2]
  obtain ⟨q, hqL⟩ : ∃ q, (ba p.body t []).getD n default = q := ⟨_, rfl⟩
  rw [hqL] at hp1 hp2 hq hqa hat hsz hst htm hf hqe
  have hsf : (p.pre :: (iC t).lp.map (·.s.facts)).getD (n + 1) default = q.s.facts := by
   rw [List.getD_cons_succ, ← hqe]
   simp [List.getD_eq_getElem?_getD, show n < (iC t).lp.length by omega]
  have hm1 := cj (m := aK [.st q.x, .lp n]) (n := 30) (by show q.x.nodes + 0 ≤ 30; omega)
  have hm2 := cj (m := aK q.r) (n := 30) (by omega)
  have e : ((n + 1 : Nat) : Int) - 1 = (n : Nat) := by omega
  have hw := s9 (n := 32) (fs := q.s.facts) (by have := hf.2; omega)
  have h8 : pD 4 = (w0 q.s.facts).vars := rfl
  rw [cB, e, hqL, h8]
  generalize hw0 : w0 q.s.facts = w at hw ⊢
  obtain ⟨f1, i1, p1⟩ := hp1
  have hg2 : GOk c (cp w (aQ q.s.sum w.vars).1 (aY w q.s.sum g)) := hg.flag.flag.flag
  have hg3 := fY hE (la := cf) (frm := (n : Nat)) (n := 31) (w := w.fact (aQ q.s.sum w.vars).1) p1 hg2
  exact z2 h1 h2 (Y := eA cf (rX p.body p.post) (n : Nat) 31 [.st q.x, .lp n]) (N := eA cf (rX p.body p.post) (n : Nat) 31 q.r) hw0 (by omega) hqe (by simp; omega) (by simp; omega) hsf (by have := hf.2; omega) htm.1 (by omega) (fun u g h => cX h) (fun u g h => cX h)
   (fun _ => vq h1 h2 hE (by omega) hP 31 ⟨f1, i1, p1⟩ (by show q.x.nodes + 0 < 31; omega) hw.fact hg2 (by omega))
   (fun _ => vq h1 h2 hE (by omega) hP 31 hp2 (by omega) hw.fact hg3 (by omega))
theorem wd {p : Pm} {t : Tr} (ht : PtOk p t) : ∀ n, n ≤ bf p.body p.body.length + 1 → (gi p t n).conds.length ≤ n * 16252928 ∧ ((gi p t n).bad = false → (gi p t n).paths.length ≤ 200) ∧ (n < bf p.body p.body.length + 1 → (ly bh p t n g0).paths.length ≤ 201 ∧ (ly bh p t n g0).conds.length ≤ 16252928)
 | n, hn => by
  have key : ∀ m, m ≤ bf p.body p.body.length → (ly bh p t m g0).paths.length ≤ 201 ∧ (ly bh p t m g0).conds.length ≤ 16252928 := fun m hm => by
   have h := rd (la := bh) (pre := p.pre) ht.e ht.tree ht.nodes hm vo
   exact ⟨h.paths, by have := h.conds; rw [Nat.zero_add] at this; exact this⟩
  refine ⟨?_, ?_, fun h => key n (by omega)⟩
  induction n with
  | zero => exact ct _
  | succ n ih =>
   have := ih (by omega)
   have k := (key n (by omega)).2
   rw [gi]; split
   exact Nat.le_trans this (Nat.mul_le_mul_right _ (Nat.le_succ n))
   simp only [ce]; rw [Nat.add_mul, Nat.one_mul]; exact Nat.add_le_add this k
  cases n with
  | zero => intro _; exact ct _
  | succ n =>
   rw [gi]; split
   rename_i h; intro h2; rw [h] at h2; cases h2
   intro h2
   simp only [Bool.or_eq_false_iff, decide_eq_false_iff_not] at h2
   exact Nat.le_of_not_lt h2.2
theorem CD {p : Pm} {t : Tr} (ht : PtOk p t) (hL : 600000000 ≤ L) : MQ h1 h2 43 [ptr p.data] [] (Plain (.tup [.c (.d (u4 (if (gi p t (bf p.body p.body.length + 1)).bad then [] else (gi p t (bf p.body p.body.length + 1)).paths))), .c (.d (r4 (if (gi p t (bf p.body p.body.length + 1)).bad then [] else (gi p t (bf p.body p.body.length + 1)).conds))), eB (!(gi p t (bf p.body p.body.length + 1)).bad)])) := by
 refine MC.data (jB 44 h1 h2 Tryz.func43 Z Z Z fun O hF => ?_)
 have hlen := ht.len
 have hnl := fI (b := p.body) (k := p.body.length)
 have hwl := gp (b := p.body) (i := p.body.length)
 refine ah (j3 O Z Z Z (aV (AOps.heap (bA O Z Z Z) Z (au ?_))))
 refine js O Z (aV (AOps.heap (bA O Z Z Z) Z (au ?_)))
 refine js O Z (jn (ag (ah (js O Z (jn (ao (aq (X := Nat) (fun i => ⟨[(0, ptr p.data), (5, .c (.rs 905 0 (gi p t i).paths.length)), (6, .c (.rs 906 0 (gi p t i).conds.length)), (7, eI ((i : Int) - 1))], [(905, bL (gi p t i).paths), (906, bM (gi p t i).conds)]⟩) (fun i => i ≤ (bf p.body p.body.length + 1) ∧ (gi p t i).bad = false) (fun i => (bf p.body p.body.length + 1) - i) 0 (((cZ 9 Z).trans (cZ 10 Z)).trans (((af 9 905 Z Z).trans (af 10 906 Z Z)).trans (Ent.to ⟨Z, Z, Z, Z, trivial⟩ Z))) ?_ (fun i hi => ?_))))))))
 exact ⟨ct _, Z⟩
 obtain ⟨hi1, hi2⟩ := hi
 obtain ⟨k1, k2, k3⟩ := wd ht i hi1
 have k4 := k2 hi2
 refine ag (ah (j2 O Z Z (ar O Z Z Z Z (vt (pre := p.pre) (post := p.post) (b := p.body) h1 h2 (by omega)) (aa Z) Z Z Z Z (B0 := 14000) Z Z (cu O Z (js O Z (jf [15,0,5,6,7] Z (jn (ae O Z Z (fun hc15 => ?_) (fun hc15 => ?_)))))))))
 refine aj (ag (ao (ah (j2 O Z Z ?_))))
 have hin : i ≤ bf p.body p.body.length := by have := bC hc15; omega
 obtain ⟨k5, k6⟩ := k3 (by omega)
 have hla : ((gi p t i).paths ++ (ly bh p t i g0).paths).length = (gi p t i).paths.length + (ly bh p t i g0).paths.length := ce
 refine aB O [] (bin := []) Z Z Z Z (show MC Tryz.prog L 81 [ptr p.data, eI ((i : Int) - 1)] [] (bc (.c (.pt 0 0 0)) (iO (pP p.pre p.body p.post) (di (av t (-1) []).1) ((i : Int) - 1) (ly bh p t i g0))) from CE (pre := p.pre) (b := p.body) (t := t) (E := rX p.body p.post) h1 h2 ht.len ht.tree ht.cok ht.nodes ht.e (kU ht.pre).2 (by omega) (n := i) hin) Z Z Z Z Z Z (B0 := 21000) Z Z (au ?_)
 refine js O Z (jf [8,15,0,5,6,7] Z (aV (j4 O Z Z Z Z (js O Z (jf [25,21,8,15,0,5,6,7] Z (AOps.heap (aU (own := false) (xs := (gi p t i).paths.map Pth.cells) (ys := (ly bh p t i g0).paths.map Pth.cells) (zs := ((gi p t i).paths ++ (ly bh p t i g0).paths).map Pth.cells) (n := ((gi p t i).paths ++ (ly bh p t i g0).paths).length) O Z Z Z Z Z Z Z Z Z Z Z Z Z Z Z Z (.row Z (bz _).symm) (.whole Z (by simp) (.inr ⟨Z, Z⟩)) (by simp) Z (by simp; omega) (by simp; omega) (by simp) (by simp)) Z (au ?_)))))))
 refine au ?_
 refine js O Z (jf [5,8,15,0,6,7] Z (aV (j4 O Z Z Z Z (js O Z (jf [31,27,5,8,15,0,6,7] Z (AOps.heap (aU (own := false) (xs := (gi p t i).conds.map Sq.cells) (ys := (ly bh p t i g0).conds.map Sq.cells) (zs := ((gi p t i).conds ++ (ly bh p t i g0).conds).map Sq.cells) (n := ((gi p t i).conds ++ (ly bh p t i g0).conds).length) O Z Z Z Z Z Z Z Z Z Z Z Z Z Z Z Z (.row Z (bz _).symm) (.whole Z (by simp) (.inr ⟨Z, Z⟩)) (by simp) Z (by simp; omega) (by simp; omega) (by simp) (by simp)) Z (au ?_)))))))
 refine au ?_
 refine js O Z (jf [6,5,8,15,0,7] Z (aV (j4 O Z Z Z Z ?_)))
 cases hb37 : (ly bh p t i g0).bad with
 | true =>
  refine js O Z (jf [37,6,5,8,15,0,7] Z (AOps.skip Z Z Z Z Z Z (AOps.skip Z Z Z Z Z Z (jf [39,37,6,5,8,15,0,7] Z (AOps.skip Z Z Z Z Z Z (ac (cy O Z Z Z Z Z) Z Z Z (jf [41,6,5,8,15,0,7] Z (jn (ae O Z Z (fun hc41 => ?_) (fun hc41 => ?_))))))))))
  refine ah (j3 O Z Z Z (jr ?_))
  refine ⟨.inl Z, _, am, _, Z, ?_⟩
  have hbad : (gi p t (i + 1)).bad = true := by rw [gi, if_neg (by rw [hi2]; decide)]; simp [hb37]
  rw [qt (al := gi p t) (fun i h => by rw [gi, if_pos h]) hbad (n := (bf p.body p.body.length + 1)) (by have := bC hc15; omega), hbad, if_pos Z, if_pos Z]
  exact .tup (.cons (.c .nils) (.cons (.c .nils) (.cons (.c .d) .nil)))
  cases hc41
 | false =>
  refine js O Z (jf [37,6,5,8,15,0,7] Z (dB Z (js O Z (dB Z (dk O Z Z (jf [39,37,6,5,8,15,0,7] Z (dB Z (js O Z (ac (cF O Z Z Z Z Z) Z Z Z (jf [41,6,5,8,15,0,7] Z (jn (ae O Z Z (fun hc41 => ?_) (fun hc41 => ?_)))))))))))))
  refine ah (j3 O Z Z Z (jr ?_))
  refine ⟨.inl Z, _, am, _, Z, ?_⟩
  have hbad : (gi p t (i + 1)).bad = true := by rw [gi, if_neg (by rw [hi2]; decide)]; simp only [decide_eq_true (show 200 < ((gi p t i).paths ++ (ly bh p t i g0).paths).length by have := bC hc41; omega), Bool.or_true]
  rw [qt (al := gi p t) (fun i h => by rw [gi, if_pos h]) hbad (n := (bf p.body p.body.length + 1)) (by have := bC hc15; omega), hbad, if_pos Z, if_pos Z]
  exact .tup (.cons (.c .nils) (.cons (.c .nils) (.cons (.c .d) .nil)))
  refine aj (ak (js O Z (ji O Z (js O Z (jf [7,41,6,5,8,15,0] Z (jn ?_))))))
  refine ⟨i + 1, (((aw [26,32] (e' := [(0, _), (5, _), (6, _), (7, _)]) Z Z ⟨Z, Z, Z, Z, trivial⟩ Z).trans (af 26 905 Z Z)).trans (af 32 906 Z Z)).trans (Ent.to ⟨Z, by rw [gi, if_neg (by rw [hi2]; decide)]; rfl, by rw [gi, if_neg (by rw [hi2]; decide)]; rfl, by rw [show (((i + 1 : Nat)) : Int) - 1 = ((i : Int) - 1) + 1 by omega]; rfl, trivial⟩ (by rw [gi, if_neg (by rw [hi2]; decide)]; rfl)), ⟨by omega, ?_⟩, by omega⟩
  rw [gi, if_neg (by rw [hi2]; decide)]
  simp only [hb37, decide_eq_false (show ¬ 200 < ((gi p t i).paths ++ (ly bh p t i g0).paths).length by have := cH hc41; omega)]; rfl
 refine aO (ah (j4 O Z Z Z Z (js O Z (jf [4,3,2,15,0,5,6,7] Z (jr ?_)))))
 refine ⟨.inl Z, _, am, _, Z, ?_⟩
 obtain rfl : i = (bf p.body p.body.length + 1) := by have := cH hc15; omega
 rw [hi2, if_neg (by decide), if_neg (by decide)]
 exact .tup (.cons (.c (.whole Z (bz _).symm)) (.cons (.c (.whole Z (bz _).symm)) (.cons (.c .d) .nil)))
deriving instance Inhabited, DecidableEq for Pth
end Go.Al
