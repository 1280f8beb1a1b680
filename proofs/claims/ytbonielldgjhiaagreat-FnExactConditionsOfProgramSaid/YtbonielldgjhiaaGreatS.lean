/- Both gather the same; the laws, walked. -/
import Derived.Test.YtbonielldgjhiaaGreatR
set_option linter.unusedVariables false
set_option linter.unusedSimpArgs false
set_option maxRecDepth 10000
set_option maxHeartbeats 4000000
open Go.Proofs
namespace Go.Al
variable {L : Nat} (h1 : 4096 ≤ L) (h2 : L ≤ 1073741824)
theorem pf {t : Tm} : aW t = if (gY [⟨7, []⟩, t] [1, -1]).ok = true then (gY [⟨7, []⟩, t] [1, -1], true) else (⟨0, []⟩, false) := by
 unfold aW pp qj
 have h1 : (1 * (⟨7, []⟩ : Tm).c + -1 * t.c) = cv Tm.c [⟨7, []⟩, t] [1, -1] := by
  simp only [cv] <;> omega
 have h2 : iD ⟨7, []⟩ 1 t (-1) = cn [⟨7, []⟩, t] [1, -1] := by
  unfold iD cn
  apply List.map_congr_left
  intro k _
  simp only [cv, nD] <;> omega
 rw [h1, h2]
theorem qr : LaEq bH aW := by
 refine ⟨fun t _ => ?_, fun t _ h => ?_⟩
 rw [pf]; unfold bH; dsimp only
 cases h : (gY [⟨7, []⟩, t] [1, -1]).ok <;> simp
 have h : (gY [⟨7, []⟩, t] [1, -1]).ok = true := h
 rw [pf, if_pos h]; rfl
structure Sim (P : List Pth) (C : List Sq) (g h : Gs) : Prop where
  ok : g.bad = false → h.bad = false ∧ g.paths = P ++ h.paths ∧ g.conds = C ++ h.conds ∧ g.paths.length ≤ 200
  bad : g.bad = true → h.bad = true ∨ 200 < P.length + h.paths.length
theorem Sim.flag {P C g h} (s : Sim P C g h) {b : Bool} : Sim P C (g.flag b) (h.flag b) := by
 refine ⟨fun e => ?_, fun e => ?_⟩
 simp only [Gs.flag, Bool.or_eq_false_iff] at e ⊢
 have := s.ok e.1
 exact ⟨⟨this.1, e.2⟩, this.2⟩
 simp only [Gs.flag, Bool.or_eq_true] at e ⊢
 rcases e with e | e
 exact (s.bad e).imp .inl id
 exact .inl (.inr e)
theorem Sim.goal {P C g h} (s : Sim P C g h) {w : Pw} {t : Tm} : Sim P C (g.goal w t) (h.goal w t) :=
  ⟨fun e => by
 have := s.ok e
 exact ⟨this.1, this.2.1, by simp only [Gs.goal, this.2.2.1, List.append_assoc], this.2.2.2⟩, fun e => s.bad e⟩
theorem Sim.path {P C g h} (s : Sim P C g h) {frm : Int} {w : Pw} {to : Int} : Sim P C (fq frm w to g) (fq frm w to h) := by
 refine ⟨fun e => ?_, fun e => ?_⟩
 simp only [fq, Bool.or_eq_false_iff, decide_eq_false_iff_not] at e ⊢
 have := s.ok e.1
 have hl := congrArg List.length this.2.1
 rw [List.length_append] at hl
 refine ⟨⟨this.1, by omega⟩, by rw [this.2.1, List.append_assoc], this.2.2.1, ?_⟩
 rw [List.length_append, List.length_singleton]; omega
 simp only [fq, Bool.or_eq_true, decide_eq_true_eq] at e ⊢
 rw [List.length_append, List.length_singleton]
 cases hb : g.bad with
 | true =>
  rcases s.bad hb with h1 | h1
  exact .inl (.inl h1)
  exact .inr (by omega)
 | false =>
  have := s.ok hb
  have hl := congrArg List.length this.2.1
  rw [List.length_append] at hl
  rcases e with e | e
  rw [hb] at e; cases e
  exact .inr (by omega)
theorem Sim.fold {P C} {w : Pw} : ∀ {fs : List Tm} {g h : Gs}, Sim P C g h → Sim P C (fs.foldl (bl w) g) (fs.foldl (bl w) h)
 | [], g, h, s => s
 | t :: fs, g, h, s => Sim.fold (fs := fs) (s.flag.goal : Sim P C (bl w g t) (bl w h t))
theorem Sim.end {P C g h} (s : Sim P C g h) {frm : Int} {w : Pw} {to : Int} {fs : List Tm} : Sim P C (cG frm w to fs g) (cG frm w to fs h) := s.fold.path
theorem Sim.cell {la : ct} {P C g h} (s : Sim P C g h) {w : Pw} {t : Tm} : Sim P C (bU la w t g) (bU la w t h) := s.flag.goal.flag.goal
theorem Sim.leaf {la : ct} {P C g h} (s : Sim P C g h) {m : Sm} {w : Pw} : (bC la m w g).1 = (bC la m w h).1 ∧ Sim P C (bC la m w g).2 (bC la m w h).2 := by
 unfold bC
 split
 exact ⟨Z, s.flag⟩
 split
 split
 exact ⟨Z, s.cell.flag⟩
 exact ⟨Z, s.cell⟩
 split
 exact ⟨Z, s.cell⟩
 split
 exact ⟨Z, s⟩
 split
 exact ⟨Z, s.flag.goal.flag⟩
 exact ⟨Z, s⟩
def Grow (g h : Gs) : Prop := g.paths.length ≤ h.paths.length ∧ (g.bad = true → h.bad = true)
theorem Grow.refl {g : Gs} : Grow g g := ⟨Nat.le_refl _, id⟩
theorem Grow.trans {g h k : Gs} (a : Grow g h) (b : Grow h k) : Grow g k := ⟨Nat.le_trans a.1 b.1, fun e => b.2 (a.2 e)⟩
theorem Grow.flag {g : Gs} {b : Bool} : Grow g (g.flag b) := ⟨Nat.le_refl _, fun e => by simp [Gs.flag, e]⟩
theorem Grow.goal {g : Gs} {w : Pw} {t : Tm} : Grow g (g.goal w t) := ⟨Nat.le_refl _, id⟩
theorem Grow.end {g : Gs} {frm : Int} {w : Pw} {to : Int} {fs : List Tm} : Grow g (cG frm w to fs g) :=
  ⟨by
    have h3 := congrArg List.length (dL (fs := fs) (w := w) (g := g))
    simp only [cG, fq, List.length_append, List.length_singleton]; omega, fun e => r5 e⟩
theorem Grow.leaf {la : ct} {g : Gs} {m : Sm} {w : Pw} : Grow g (bC la m w g).2 := by
 unfold bC
 split
 exact .flag
 split
 split
 exact ((Grow.flag.trans .goal).trans .flag).trans (Grow.goal.trans .flag)
 exact ((Grow.flag.trans .goal).trans .flag).trans .goal
 split
 exact ((Grow.flag.trans .goal).trans .flag).trans .goal
 split
 exact .refl
 split
 exact (Grow.flag.trans .goal).trans .flag
 exact .refl
theorem gl {la : ct} {E : Pe} {frm : Int} : ∀ {n : Nat} {r : List Fr} {w : Pw} {g : Gs}, Grow g (dz la E frm n r w g)
 | 0, r, w, g => .refl
 | n + 1, r, w, g => by
  cases hb : g.bad with
  | true => rw [ce hb]; exact .refl
  | false =>
   match r with
   | [] => rw [eo hb]; exact .end
   | .lp k :: r => rw [fK hb]; exact .end
   | .st (.node s a []) :: r => rw [dD hb]; exact Grow.leaf.trans gl
   | .st (.node s a [x]) :: r => rw [fJ hb]; exact .end
   | .st (.node s a [x, y]) :: r =>
    by_cases hk : s.kind = 1
    rw [em hb hk]; exact gl
    rw [fL hb hk, cT]
    exact ((Grow.flag.trans .flag).trans .flag).trans (gl.trans gl)
   | .st (.node s a (x :: y :: z :: ks)) :: r => rw [fu hb]; exact Grow.leaf.trans gl
theorem Sim.grow {P C g h k} (s : Sim P C g h) (hg : g.bad = true) (a : Grow h k) : Sim P C g k :=
  ⟨fun e => absurd (hg.symm.trans e) (by decide), fun _ => (s.bad hg).imp a.2 (fun h => by have := a.1; omega)⟩
theorem fd {la : ct} {E : Pe} {frm : Int} {P C} : ∀ {n : Nat} {r : List Fr} {w : Pw} {g h : Gs}, Sim P C g h → Sim P C (dz la E frm n r w g) (dz la E frm n r w h)
 | 0, r, w, g, h, s => s
 | n + 1, r, w, g, h, s => by
  cases hb : g.bad with
  | true => rw [ce hb]; exact s.grow hb gl
  | false =>
   have hc := (s.ok hb).1
   match r with
   | [] => rw [eo hb, eo hc]; exact s.end
   | .lp k :: r => rw [fK hb, fK hc]; exact s.end
   | .st (.node m a []) :: r =>
    rw [dD hb, dD hc, (s.leaf (la := la) (m := m) (w := w)).1]
    exact fd s.leaf.2
   | .st (.node m a [x]) :: r => rw [fJ hb, fJ hc]; exact s.end
   | .st (.node m a [x, y]) :: r =>
    by_cases hk : m.kind = 1
    rw [em hb hk, em hc hk]; exact fd s
    rw [fL hb hk, fL hc hk]
    exact fd (fd s.flag.flag.flag)
   | .st (.node m a (x :: y :: z :: ks)) :: r =>
    rw [fu hb, fu hc, (s.leaf (la := la) (m := m) (w := w)).1]
    exact fd s.leaf.2
theorem pC {la : ct} {E : Pe} {b : List Sm} {t : Tr} {pre : List Tm} {P C} {n : Nat} {g h : Gs} (s : Sim P C g h) : Sim P C (bP la E b t pre n g) (bP la E b t pre n h) := by
 cases n with
 | zero => rw [bP, bP]; exact fd s
 | succ n => rw [bP, bP, cT, cT, aR, aR]; exact fd (fd s.flag.flag.flag)
theorem mY {E : Pe} {b : List Sm} {t : Tr} {pre : List Tm} {n : Nat} {g : Gs} : GEq (bP bH E b t pre n g) (bP aW E b t pre n g) := by
 cases n with
 | zero => rw [bP, bP]; exact gg qr .refl
 | succ n => rw [bP, bP, cT, cT]; exact gg qr (gg qr .refl)
theorem lB {la : ct} {E : Pe} {b : List Sm} {t : Tr} {pre : List Tm} {n : Nat} {g : Gs} (h : g.bad = true) : bP la E b t pre n g = g := by
 cases n with
 | zero => rw [bP]; exact ce h
 | succ n => rw [bP, cT, aR, iU h, iU h, iU h, ce h, ce h]
def ja (p : Pm) (t : Tr) : Nat → Gs
  | 0 => g0
  | i + 1 => fI bH p t i (ja p t i)
def eF (p : Pm) (t : Tr) : Nat → Gs
  | 0 => g0
  | i + 1 => if (eF p t i).bad = true then eF p t i else ⟨(eF p t i).paths ++ (fI aW p t i g0).paths, (eF p t i).conds ++ (fI aW p t i g0).conds, (fI aW p t i g0).bad || decide (200 < ((eF p t i).paths ++ (fI aW p t i g0).paths).length)⟩
theorem qy {p : Pm} {t : Tr} : ∀ n, GEq (ja p t n) (eF p t n) ∧ ((ja p t n).bad = false → (ja p t n).paths.length ≤ 200)
 | 0 => ⟨by rw [ja, eF]; exact .refl, fun _ => by rw [ja]; exact Nat.zero_le _⟩
 | n + 1 => by
  obtain ⟨e, hl⟩ := qy (p := p) (t := t) n
  rw [ja, eF]
  cases hb : (ja p t n).bad with
  | true =>
   rw [if_pos (by rw [← e.bad]; exact hb), fI, lB hb]
   exact ⟨e, fun h => by rw [hb] at h; cases h⟩
  | false =>
   have ha := e.eq hb
   rw [← ha, if_neg (by rw [hb]; decide)]
   have s0 : Sim (ja p t n).paths (ja p t n).conds (ja p t n) g0 := ⟨fun _ => ⟨rfl, by simp [g0], by simp [g0], hl hb⟩, fun h => absurd (hb.symm.trans h) (by decide)⟩
   have s := pC (la := bH) (E := lV p.body p.post) (b := p.body) (t := t) (pre := p.pre) (n := n) s0
   have q := mY (E := lV p.body p.post) (b := p.body) (t := t) (pre := p.pre) (n := n) (g := g0)
   unfold fI
   generalize bP bH (lV p.body p.post) p.body t p.pre n (ja p t n) = x at s ⊢
   generalize bP bH (lV p.body p.post) p.body t p.pre n g0 = y at s q
   generalize bP aW (lV p.body p.post) p.body t p.pre n g0 = z at q ⊢
   refine ⟨?_, fun h => (s.ok h).2.2.2⟩
   cases hc : x.bad with
   | false =>
    obtain ⟨a1, a2, a3, a4⟩ := s.ok hc
    have a5 := q.eq a1
    subst a5
    rw [← a2, ← a3, a1, decide_eq_false (show ¬ 200 < x.paths.length by omega)]
    have e : (⟨x.paths, x.conds, false || false⟩ : Gs) = x := by cases x; simp only at hc; subst hc; rfl
    rw [e]
    exact .refl
   | true =>
    refine .of hc ?_
    have : z.bad = true ∨ 200 < ((ja p t n).paths ++ z.paths).length := by
     cases hd : y.bad with
     | true => exact .inl (by rw [← q.bad]; exact hd)
     | false =>
      have a6 := q.eq hd
      subst a6
      rcases s.bad hc with h | h
      exact .inl h
      exact .inr (by rw [List.length_append]; exact h)
    rcases this with h | h
    simp [h]
    simp only [decide_eq_true h, Bool.or_true]
theorem mX {b : List Sm} {t : Tr} (hT : bJ b 0 = some (t, b.length)) : (∃ fl i, Pl b fl i [.st t]) ∧ ∀ n, n < aS b b.length → (∃ fl i, Pl b fl i [.st ((aQ b t []).getD n default).x, .lp n]) ∧ (∃ fl i, Pl b fl i ((aQ b t []).getD n default).r) := by
 have hB := dU hT (nx := -1) (f := []) (r := []) .nil
 refine ⟨⟨_, _, hB.pl⟩, fun n hn => ?_⟩
 obtain ⟨hq, hqa⟩ := gJ hT hn
 obtain ⟨i, _, h1, h2, h3, h4⟩ := hB.all _ hq
 rw [hqa] at h3
 exact ⟨⟨_, _, h3⟩, ⟨_, _, h4⟩⟩
theorem iO {la : ct} {E : Pe} {b : List Sm} {t : Tr} {pre : List Tm} (hE : EOk E b) (hT : bJ b 0 = some (t, b.length)) (hnd : t.nodes ≤ 30) {n c : Nat} (hn : n ≤ aS b b.length) {g : Gs} (hg : GOk c g) : GOk (c + 16252928) (bP la E b t pre n g) := by
 obtain ⟨⟨fl, i, p0⟩, hl⟩ := mX hT
 have e0 : aD [] = 0 := rfl
 have h30 := l8
 cases n with
 | zero =>
  rw [bP]
  have hm := bR (m := aD [.st t]) (n := 30) (by show t.nodes + 0 ≤ 30; omega)
  exact (eL hE p0 hg).le (by omega)
 | succ n =>
  obtain ⟨⟨f1, i1, p1⟩, ⟨f2, i2, p2⟩⟩ := hl n (by omega)
  have hsz := (po hT (r := [])).size _ (gJ hT (n := n) (by omega)).1
  have hm1 := bR (m := aD [.st ((aQ b t []).getD n default).x, .lp n]) (n := 30) (by show ((aQ b t []).getD n default).x.nodes + 0 ≤ 30; omega)
  have hm2 := bR (m := aD ((aQ b t []).getD n default).r) (n := 30) (by omega)
  rw [bP, cT, aR]
  exact (eL hE p2 (eL hE p1 hg.flag.flag.flag)).le (by omega)
theorem sH {L : Nat} (h1 : 4096 ≤ L) (h2 : L ≤ 1073741824) {p : Pm} {t : Tr} (ht : PtOk p t) {n c : Nat} (hn : n ≤ aS p.body p.body.length) {g : Gs} (hg : GOk c g) (hL : c + 16252928 ≤ L) : MC Tryz.prog L 59 [.c (.pt 0 0 0), eI ((n : Int) - 1)] (qi p t g) (aZ (.tup []) (mE p t (fI bH p t n g))) := by
 have hE := ht.e
 have hbl := ht.len
 have hT := ht.tree
 have hnd := ht.nodes
 have hP := vk (pre := p.pre) (post := p.post) hT
 have hpre := (eO ht.pre).2
 obtain ⟨hp0, hl⟩ := mX hT
 have e0 : aD [] = 0 := rfl
 have h30 := l8
 have hlen : (dF t).lp.length = aS p.body p.body.length := (jF hT).1.len
 have hnl := cS (b := p.body) (k := p.body.length)
 rw [fI]
 cases n with
 | zero =>
  have hm := bR (m := aD [.st t]) (n := 30) (by show t.nodes + 0 ≤ 30; omega)
  rw [bP]
  exact tI h1 h2 (f := p.pre) (t := t) Z (by simp) (by simp; omega) Z (by omega) Z
   (qt h1 h2 hE (by omega) hP 31 hp0 (by show t.nodes + 0 < 31; omega) (lh (by omega)) hg (by omega))
 | succ n =>
  obtain ⟨hp1, hp2⟩ := hl n (by omega)
  obtain ⟨hq, hqa⟩ := gJ hT (n := n) (by omega)
  have hat := (po hT (r := [])).at_ _ hq
  have hsz := (po hT (r := [])).size _ hq
  have hst := ht.st _ (show ((aQ p.body t []).getD n default).a < p.body.length by omega)
  rw [← hat.2.2.2] at hst
  have htm := gE hst
  have hf := eh hst
  have hqe : (dF t).lp.getD n default = (aQ p.body t []).getD n default := by rw [(jF hT).2]
  obtain ⟨q, hqL⟩ : ∃ q, (aQ p.body t []).getD n default = q := ⟨_, rfl⟩
  rw [hqL] at hp1 hp2 hq hqa hat hsz hst htm hf hqe
  have hsf : (p.pre :: (dF t).lp.map (·.s.facts)).getD (n + 1) default = q.s.facts := by
   rw [List.getD_cons_succ, ← hqe]
   simp [List.getD_eq_getElem?_getD, show n < (dF t).lp.length by omega]
  have hm1 := bR (m := aD [.st q.x, .lp n]) (n := 30) (by show q.x.nodes + 0 ≤ 30; omega)
  have hm2 := bR (m := aD q.r) (n := 30) (by omega)
  have e : ((n + 1 : Nat) : Int) - 1 = (n : Nat) := by omega
  have hw := lh (n := 32) (fs := q.s.facts) (by have := hf.2; omega)
  have h8 : lU 4 = (w0 q.s.facts).vars := rfl
  rw [bP, e, hqL, h8]
  generalize hw0 : w0 q.s.facts = w at hw ⊢
  obtain ⟨f1, i1, p1⟩ := hp1
  have hg2 : GOk c (bS w (aG q.s.sum w.vars).1 (aR w q.s.sum g)) := hg.flag.flag.flag
  have hg3 := eL hE (la := bH) (frm := (n : Nat)) (n := 31) (w := w.fact (aG q.s.sum w.vars).1) p1 hg2
  exact tH h1 h2 (Y := dz bH (lV p.body p.post) (n : Nat) 31 [.st q.x, .lp n]) (N := dz bH (lV p.body p.post) (n : Nat) 31 q.r) hw0 (by omega) hqe (by simp; omega) (by simp; omega) hsf (by have := hf.2; omega) htm.1 (by omega) (fun u g h => ce h) (fun u g h => ce h)
   (fun _ => qt h1 h2 hE (by omega) hP 31 ⟨f1, i1, p1⟩ (by show q.x.nodes + 0 < 31; omega) hw.fact hg2 (by omega))
   (fun _ => qt h1 h2 hE (by omega) hP 31 hp2 (by omega) hw.fact hg3 (by omega))
theorem nU {p : Pm} {t : Tr} (ht : PtOk p t) : ∀ n, n ≤ aS p.body p.body.length + 1 → (eF p t n).conds.length ≤ n * 16252928 ∧ ((eF p t n).bad = false → (eF p t n).paths.length ≤ 200) ∧ (n < aS p.body p.body.length + 1 → (fI aW p t n g0).paths.length ≤ 201 ∧ (fI aW p t n g0).conds.length ≤ 16252928)
 | n, hn => by
  have key : ∀ m, m ≤ aS p.body p.body.length → (fI aW p t m g0).paths.length ≤ 201 ∧ (fI aW p t m g0).conds.length ≤ 16252928 := fun m hm => by
   have h := iO (la := aW) (pre := p.pre) ht.e ht.tree ht.nodes hm lm
   exact ⟨h.paths, by have := h.conds; rw [Nat.zero_add] at this; exact this⟩
  refine ⟨?_, ?_, fun h => key n (by omega)⟩
  induction n with
  | zero => exact Nat.zero_le _
  | succ n ih =>
   have := ih (by omega)
   have k := (key n (by omega)).2
   rw [eF]; split
   exact Nat.le_trans this (Nat.mul_le_mul_right _ (Nat.le_succ n))
   simp only [List.length_append]; rw [Nat.add_mul, Nat.one_mul]; exact Nat.add_le_add this k
  cases n with
  | zero => intro _; exact Nat.zero_le _
  | succ n =>
   rw [eF]; split
   rename_i h; intro h2; rw [h] at h2; cases h2
   intro h2
   simp only [Bool.or_eq_false_iff, decide_eq_false_iff_not] at h2
   exact Nat.le_of_not_lt h2.2
theorem sJ {p : Pm} {t : Tr} (ht : PtOk p t) (hL : 600000000 ≤ L) : MQ h1 h2 41 [ptr p.data] [] (Plain (.tup [.c (.d (f7 (if (eF p t (aS p.body p.body.length + 1)).bad then [] else (eF p t (aS p.body p.body.length + 1)).paths))), .c (.d (e6 (if (eF p t (aS p.body p.body.length + 1)).bad then [] else (eF p t (aS p.body p.body.length + 1)).conds))), eB (!(eF p t (aS p.body p.body.length + 1)).bad)])) := by
 refine MC.data (jB 44 h1 h2 Tryz.func41 Z Z Z fun O hF => ?_)
 have hlen := ht.len
 have hnl := cS (b := p.body) (k := p.body.length)
 have hwl := eg (b := p.body) (i := p.body.length)
 refine ag (j3 O Z Z Z (aP (AOps.heap (bE O Z Z Z) Z (aq ?_))))
 refine js O Z (aP (AOps.heap (bE O Z Z Z) Z (aq ?_)))
 refine js O Z (jn (AWP.seq (ag (js O Z (jn (AWP.block (az (X := Nat) (fun i => ⟨[(0, ptr p.data), (5, .c (.rs 905 0 (eF p t i).paths.length)), (6, .c (.rs 906 0 (eF p t i).conds.length)), (7, eI ((i : Int) - 1))], [(905, bz (eF p t i).paths), (906, bA (eF p t i).conds)]⟩) (fun i => i ≤ (aS p.body p.body.length + 1) ∧ (eF p t i).bad = false) (fun i => (aS p.body p.body.length + 1) - i) 0 (((cp 9 Z).trans (cp 10 Z)).trans (((af 9 905 Z Z).trans (af 10 906 Z Z)).trans (Ent.to ⟨Z, Z, Z, Z, trivial⟩ Z))) ?_ (fun i hi => ?_))))))))
 exact ⟨Nat.zero_le _, Z⟩
 obtain ⟨hi1, hi2⟩ := hi
 obtain ⟨k1, k2, k3⟩ := nU ht i hi1
 have k4 := k2 hi2
 refine AWP.seq (ag (j2 O Z Z (ao O Z Z Z Z (oV (pre := p.pre) (post := p.post) (b := p.body) h1 h2 (by omega)) (ab Z) Z Z Z Z (B0 := 14000) Z Z ?_)))
 first | refine cy O Z Z Z Z Z Z Z Z Z Z Z ?_ | refine js O Z ?_ | refine aY O Z Z Z Z Z ?_
 refine js O Z (jf [15,0,5,6,7] Z (jn (AWP.cond O Z Z (fun hc15 => ?_) (fun hc15 => ?_))))
 refine AWP.skip (AWP.seq (AWP.block (ag (j2 O Z Z ?_))))
 have hin : i ≤ aS p.body p.body.length := by have := of_decide_eq_true hc15; omega
 obtain ⟨k5, k6⟩ := k3 (by omega)
 have hla : ((eF p t i).paths ++ (fI aW p t i g0).paths).length = (eF p t i).paths.length + (fI aW p t i g0).paths.length := List.length_append
 refine ap O [] (bin := []) Z Z Z Z (show MC Tryz.prog L 29 [ptr p.data, eI ((i : Int) - 1)] [] (aZ (.c (.pt 0 0 0)) (fm (pP p.pre p.body p.post) (cz (am t (-1) []).1) ((i : Int) - 1) (fI aW p t i g0))) from qw (pre := p.pre) (b := p.body) (t := t) (E := lV p.body p.post) h1 h2 ht.len ht.tree ht.cok ht.nodes ht.e (eO ht.pre).2 (by omega) (n := i) hin) Z Z Z Z Z Z (B0 := 21000) Z Z (aq ?_)
 refine js O Z (jf [8,15,0,5,6,7] Z (aP (j4 O Z Z Z Z (js O Z (jf [25,21,8,15,0,5,6,7] Z (AOps.heap (bD (own := false) (xs := (eF p t i).paths.map Pth.cells) (ys := (fI aW p t i g0).paths.map Pth.cells) (zs := ((eF p t i).paths ++ (fI aW p t i g0).paths).map Pth.cells) (n := ((eF p t i).paths ++ (fI aW p t i g0).paths).length) O Z Z Z Z Z Z Z Z Z Z Z Z Z Z Z Z (.row Z (List.length_map _).symm) (.whole Z (by simp) (.inr ⟨Z, Z⟩)) (by simp) Z (by simp; omega) (by simp; omega) (by simp) (by simp)) Z (aq ?_)))))))
 refine aq ?_
 refine js O Z (jf [5,8,15,0,6,7] Z (aP (j4 O Z Z Z Z (js O Z (jf [31,27,5,8,15,0,6,7] Z (AOps.heap (bD (own := false) (xs := (eF p t i).conds.map Sq.cells) (ys := (fI aW p t i g0).conds.map Sq.cells) (zs := ((eF p t i).conds ++ (fI aW p t i g0).conds).map Sq.cells) (n := ((eF p t i).conds ++ (fI aW p t i g0).conds).length) O Z Z Z Z Z Z Z Z Z Z Z Z Z Z Z Z (.row Z (List.length_map _).symm) (.whole Z (by simp) (.inr ⟨Z, Z⟩)) (by simp) Z (by simp; omega) (by simp; omega) (by simp) (by simp)) Z (aq ?_)))))))
 refine aq ?_
 refine js O Z (jf [6,5,8,15,0,7] Z (aP (j4 O Z Z Z Z ?_)))
 cases hb37 : (fI aW p t i g0).bad with
 | true =>
  refine js O Z (jf [37,6,5,8,15,0,7] Z (AOps.skip Z Z Z Z Z Z (AOps.skip Z Z Z Z Z Z (jf [39,37,6,5,8,15,0,7] Z (AOps.skip Z Z Z Z Z Z (aa (jC O Z Z Z Z Z) Z Z Z (jf [41,6,5,8,15,0,7] Z (jn (AWP.cond O Z Z (fun hc41 => ?_) (fun hc41 => ?_))))))))))
  refine ag (j3 O Z Z Z (jn (AWP.ret ?_)))
  refine ⟨.inl Z, _, Ent.refl, _, Z, ?_⟩
  have hbad : (eF p t (i + 1)).bad = true := by rw [eF, if_neg (by rw [hi2]; decide)]; simp [hb37]
  rw [mt (al := eF p t) (fun i h => by rw [eF, if_pos h]) hbad (n := (aS p.body p.body.length + 1)) (by have := of_decide_eq_true hc15; omega), hbad, if_pos Z, if_pos Z]
  exact .tup (.cons (.c .nils) (.cons (.c .nils) (.cons (.c .d) .nil)))
  cases hc41
 | false =>
  refine js O Z (jf [37,6,5,8,15,0,7] Z (ah Z Z Z Z Z (js O Z (ah Z Z Z Z Z ?_))))
  first | refine cy O Z Z Z Z Z Z Z Z Z Z Z ?_ | refine js O Z ?_ | refine aY O Z Z Z Z Z ?_
  refine jf [39,37,6,5,8,15,0,7] Z (ah Z Z Z Z Z (js O Z (aa (aX O Z Z Z Z Z) Z Z Z (jf [41,6,5,8,15,0,7] Z (jn (AWP.cond O Z Z (fun hc41 => ?_) (fun hc41 => ?_)))))))
  refine ag (j3 O Z Z Z (jn (AWP.ret ?_)))
  refine ⟨.inl Z, _, Ent.refl, _, Z, ?_⟩
  have hbad : (eF p t (i + 1)).bad = true := by rw [eF, if_neg (by rw [hi2]; decide)]; simp only [decide_eq_true (show 200 < ((eF p t i).paths ++ (fI aW p t i g0).paths).length by have := of_decide_eq_true hc41; omega), Bool.or_true]
  rw [mt (al := eF p t) (fun i h => by rw [eF, if_pos h]) hbad (n := (aS p.body p.body.length + 1)) (by have := of_decide_eq_true hc15; omega), hbad, if_pos Z, if_pos Z]
  exact .tup (.cons (.c .nils) (.cons (.c .nils) (.cons (.c .d) .nil)))
  refine AWP.skip (AWP.region (js O Z ?_))
  first | refine ji O Z ?_ | refine aY O Z Z Z Z Z ?_
  refine js O Z (jf [7,41,6,5,8,15,0] Z (jn ?_))
  refine ⟨i + 1, (((aT [26,32] (e' := [(0, _), (5, _), (6, _), (7, _)]) Z Z ⟨Z, Z, Z, Z, trivial⟩ Z).trans (af 26 905 Z Z)).trans (af 32 906 Z Z)).trans (Ent.to ⟨Z, by rw [eF, if_neg (by rw [hi2]; decide)]; rfl, by rw [eF, if_neg (by rw [hi2]; decide)]; rfl, by rw [show (((i + 1 : Nat)) : Int) - 1 = ((i : Int) - 1) + 1 by omega]; rfl, trivial⟩ (by rw [eF, if_neg (by rw [hi2]; decide)]; rfl)), ⟨by omega, ?_⟩, by omega⟩
  rw [eF, if_neg (by rw [hi2]; decide)]
  simp only [hb37, decide_eq_false (show ¬ 200 < ((eF p t i).paths ++ (fI aW p t i g0).paths).length by have := of_decide_eq_false hc41; omega)]; rfl
 refine AWP.exit (ag (j4 O Z Z Z Z (js O Z (jf [4,3,2,15,0,5,6,7] Z (jn (AWP.ret ?_))))))
 refine ⟨.inl Z, _, Ent.refl, _, Z, ?_⟩
 obtain rfl : i = (aS p.body p.body.length + 1) := by have := of_decide_eq_false hc15; omega
 rw [hi2, if_neg (by decide), if_neg (by decide)]
 exact .tup (.cons (.c (.whole Z (List.length_map _).symm)) (.cons (.c (.whole Z (List.length_map _).symm)) (.cons (.c .d) .nil)))
theorem ro {p : Pm} (hp : cC p = false) : MQ h1 h2 16 [aPm p] [] (Plain (.tup [.c (.d (f7 [])), eB false])) := by
 refine MC.data (jB 16 h1 h2 Tryz.func16 Z Z Z fun O hF => ?_)
 refine ag (jx O Z Z Z Z Z Z Z Z (aq ?_))
 refine aA (Ent.freeze 1 (e' := [(1, _), (0, _)]) Z (.cons Z (.c (.box (cs := Pm.data p) Z (aw Z))) (.cons Z (.keep Z) .nil)) (.skip .nil)) ?_
 refine aq ?_
 refine j2 O Z Z (jn (AWP.seq (ag (ae O Z Z Z Z ((rz (p := p) h1 h2).plain (u := eB false) (by rw [hp])) (ab Z) Z Z Z Z Z (B0 := 8000) Z (js O Z (jn (AWP.cond O Z Z (fun hc8 => ?_) (fun hc8 => ?_))))))))
 refine ag (j2 O Z Z (jn (AWP.ret ?_)))
 refine ⟨.inl Z, _, Ent.refl, _, Z, ?_⟩
 exact .tup (.cons (.c .nils) (.cons (.c .d) .nil))
 cases hc8
theorem rn {p : Pm} (hp : cC p = false) : MQ h1 h2 23 [aPm p] [] (Plain (.tup [.c (.d (e6 [])), eB false])) := by
 refine MC.data (jB 22 h1 h2 Tryz.func23 Z Z Z fun O hF => ?_)
 refine ag (jx O Z Z Z Z Z Z Z Z (aq ?_))
 refine aA (Ent.freeze 1 (e' := [(1, _), (0, _)]) Z (.cons Z (.c (.box (cs := Pm.data p) Z (aw Z))) (.cons Z (.keep Z) .nil)) (.skip .nil)) ?_
 refine aq ?_
 refine j2 O Z Z (jn (AWP.seq (ag (ae O Z Z Z Z ((rz (p := p) h1 h2).plain (u := eB false) (by rw [hp])) (ab Z) Z Z Z Z Z (B0 := 8000) Z (js O Z (jn (AWP.cond O Z Z (fun hc8 => ?_) (fun hc8 => ?_))))))))
 refine ag (j2 O Z Z (jn (AWP.ret ?_)))
 refine ⟨.inl Z, _, Ent.refl, _, Z, ?_⟩
 exact .tup (.cons (.c .nils) (.cons (.c .d) .nil))
 cases hc8
theorem sK {p : Pm} {ps : List Pth} {cs : List Sq} {b : Bool} (hp : cC p = true) (hA : MQ h1 h2 41 [ptr p.data] [] (Plain (.tup [.c (.d (f7 ps)), .c (.d (e6 cs)), eB b]))) : MQ h1 h2 16 [aPm p] [] (Plain (.tup [.c (.d (f7 ps)), eB b])) := by
 refine MC.data (jB 16 h1 h2 Tryz.func16 Z Z Z fun O hF => ?_)
 refine ag (jx O Z Z Z Z Z Z Z Z (aq ?_))
 refine aA (Ent.freeze 1 (e' := [(1, _), (0, _)]) Z (.cons Z (.c (.box (cs := Pm.data p) Z (aw Z))) (.cons Z (.keep Z) .nil)) (.skip .nil)) ?_
 refine aq ?_
 refine j2 O Z Z (jn (AWP.seq (ag (ae O Z Z Z Z ((rz (p := p) h1 h2).plain (u := eB true) (by rw [hp])) (ab Z) Z Z Z Z Z (B0 := 8000) Z (js O Z (jn (AWP.cond O Z Z (fun hc8 => ?_) (fun hc8 => ?_))))))))
 cases hc8
 refine AWP.skip (ag (ao O Z Z Z Z (hA) (ab Z) Z Z Z Z (B0 := 11000) Z Z (j4 O Z Z Z Z (j3 O Z Z Z (jf [6,4,7,3,2,1,0] Z (aP (j4 O Z Z Z Z (jf [3,2,7,1,0] Z (jn (AWP.ret ?_))))))))))
 refine ⟨.inl Z, _, Ent.refl, _, Z, ?_⟩
 exact .tup (.cons (.c .d) (.cons (.c .d) .nil))
theorem tV {p : Pm} {ps : List Pth} {cs : List Sq} (hp : cC p = true) (hA : MQ h1 h2 41 [ptr p.data] [] (Plain (.tup [.c (.d (f7 ps)), .c (.d (e6 cs)), eB true]))) (hc : de cs = true) : MQ h1 h2 23 [aPm p] [] (Plain (.tup [.c (.d (e6 cs)), eB true])) := by
 refine MC.data (jB 22 h1 h2 Tryz.func23 Z Z Z fun O hF => ?_)
 refine ag (jx O Z Z Z Z Z Z Z Z (aq ?_))
 refine aA (Ent.freeze 1 (e' := [(1, _), (0, _)]) Z (.cons Z (.c (.box (cs := Pm.data p) Z (aw Z))) (.cons Z (.keep Z) .nil)) (.skip .nil)) ?_
 refine aq ?_
 refine j2 O Z Z (jn (AWP.seq (ag (ae O Z Z Z Z ((rz (p := p) h1 h2).plain (u := eB true) (by rw [hp])) (ab Z) Z Z Z Z Z (B0 := 8000) Z (js O Z (jn (AWP.cond O Z Z (fun hc8 => ?_) (fun hc8 => ?_))))))))
 cases hc8
 refine AWP.skip (ag (ao O Z Z Z Z (hA) (ab Z) Z Z Z Z (B0 := 11000) Z Z (j4 O Z Z Z Z (j3 O Z Z Z (jf [6,5,7,3,2,1,0] Z (jn (AWP.seq (ag (j3 O Z Z Z (jf [16,5,7,3,2,1,0] Z (ah Z Z Z Z Z (js O Z (ah Z Z Z Z Z ?_)))))))))))))
 refine ae O Z Z Z Z ((qv (ss := cs) h1 h2).plain (u := eB true) (by rw [hc])) (ab Z) Z Z Z Z Z (B0 := 19000) Z (jf [18,16,5,7,3,2,1,0] Z (ah Z Z Z Z Z (js O Z ?_)))
 first | refine aa (aj O Z Z Z Z Z) Z Z Z ?_ | refine aa (Val.pickB O Z Z Z Z Z) Z Z Z ?_ | refine aa (ak O Z Z Z Z Z) Z Z Z ?_
 refine jf [20,5,7,3,2,1,0] Z (jn (AWP.cond O Z Z (fun hc20 => ?_) (fun hc20 => ?_)))
 exact absurd hc20 (by decide)
 refine AWP.skip (ag (j3 O Z Z Z (jf [3,2,5,7,1,0] Z (jn (AWP.ret ?_)))))
 refine ⟨.inl Z, _, Ent.refl, _, Z, ?_⟩
 exact .tup (.cons (.c .d) (.cons (.c .d) .nil))
theorem tW {p : Pm} {ps : List Pth} {cs : List Sq} (hp : cC p = true) (hA : MQ h1 h2 41 [ptr p.data] [] (Plain (.tup [.c (.d (f7 ps)), .c (.d (e6 cs)), eB true]))) (hc : de cs = false) : MQ h1 h2 23 [aPm p] [] (Plain (.tup [.c (.d (e6 [])), eB false])) := by
 refine MC.data (jB 22 h1 h2 Tryz.func23 Z Z Z fun O hF => ?_)
 refine ag (jx O Z Z Z Z Z Z Z Z (aq ?_))
 refine aA (Ent.freeze 1 (e' := [(1, _), (0, _)]) Z (.cons Z (.c (.box (cs := Pm.data p) Z (aw Z))) (.cons Z (.keep Z) .nil)) (.skip .nil)) ?_
 refine aq ?_
 refine j2 O Z Z (jn (AWP.seq (ag (ae O Z Z Z Z ((rz (p := p) h1 h2).plain (u := eB true) (by rw [hp])) (ab Z) Z Z Z Z Z (B0 := 8000) Z (js O Z (jn (AWP.cond O Z Z (fun hc8 => ?_) (fun hc8 => ?_))))))))
 cases hc8
 refine AWP.skip (ag (ao O Z Z Z Z (hA) (ab Z) Z Z Z Z (B0 := 11000) Z Z (j4 O Z Z Z Z (j3 O Z Z Z (jf [6,5,7,3,2,1,0] Z (jn (AWP.seq (ag (j3 O Z Z Z (jf [16,5,7,3,2,1,0] Z (ah Z Z Z Z Z (js O Z (ah Z Z Z Z Z ?_)))))))))))))
 refine ae O Z Z Z Z ((qv (ss := cs) h1 h2).plain (u := eB false) (by rw [hc])) (ab Z) Z Z Z Z Z (B0 := 19000) Z (jf [18,16,5,7,3,2,1,0] Z (ah Z Z Z Z Z (js O Z ?_)))
 first | refine aa (aj O Z Z Z Z Z) Z Z Z ?_ | refine aa (Val.pickB O Z Z Z Z Z) Z Z Z ?_ | refine aa (ak O Z Z Z Z Z) Z Z Z ?_
 refine jf [20,5,7,3,2,1,0] Z (jn (AWP.cond O Z Z (fun hc20 => ?_) (fun hc20 => ?_)))
 refine ag (j2 O Z Z (jn (AWP.ret ?_)))
 refine ⟨.inl Z, _, Ent.refl, _, Z, ?_⟩
 exact .tup (.cons (.c .nils) (.cons (.c .d) .nil))
 exact absurd hc20 (by decide)
theorem tX {p : Pm} {ps : List Pth} {cs : List Sq} (hp : cC p = true) (hA : MQ h1 h2 41 [ptr p.data] [] (Plain (.tup [.c (.d (f7 ps)), .c (.d (e6 cs)), eB false]))) : MQ h1 h2 23 [aPm p] [] (Plain (.tup [.c (.d (e6 [])), eB false])) := by
 refine MC.data (jB 22 h1 h2 Tryz.func23 Z Z Z fun O hF => ?_)
 refine ag (jx O Z Z Z Z Z Z Z Z (aq ?_))
 refine aA (Ent.freeze 1 (e' := [(1, _), (0, _)]) Z (.cons Z (.c (.box (cs := Pm.data p) Z (aw Z))) (.cons Z (.keep Z) .nil)) (.skip .nil)) ?_
 refine aq ?_
 refine j2 O Z Z (jn (AWP.seq (ag (ae O Z Z Z Z ((rz (p := p) h1 h2).plain (u := eB true) (by rw [hp])) (ab Z) Z Z Z Z Z (B0 := 8000) Z (js O Z (jn (AWP.cond O Z Z (fun hc8 => ?_) (fun hc8 => ?_))))))))
 cases hc8
 refine AWP.skip (ag (ao O Z Z Z Z (hA) (ab Z) Z Z Z Z (B0 := 11000) Z Z (j4 O Z Z Z Z (j3 O Z Z Z (jf [6,5,7,3,2,1,0] Z (jn (AWP.seq (ag (j3 O Z Z Z (jf [16,5,7,3,2,1,0] Z (AOps.skip Z Z Z Z Z Z (AOps.skip Z Z Z Z Z Z (jf [18,16,5,7,3,2,1,0] Z ?_)))))))))))))
 refine AOps.skip Z Z Z Z Z Z (aa (jC O Z Z Z Z Z) Z Z Z (jf [20,5,7,3,2,1,0] Z (jn (AWP.cond O Z Z (fun hc20 => ?_) (fun hc20 => ?_)))))
 refine ag (j2 O Z Z (jn (AWP.ret ?_)))
 refine ⟨.inl Z, _, Ent.refl, _, Z, ?_⟩
 exact .tup (.cons (.c .nils) (.cons (.c .d) .nil))
 exact absurd hc20 (by decide)
deriving instance Inhabited, DecidableEq for Pth
abbrev mQ (k : Int) (s : Sq) : Sq := ⟨aH mT nT k s.facts, ⟨k + bf nT s.facts, aH mI bW (k + bf nT s.facts + 1) s.goal.xs⟩⟩
abbrev nQ (s : Sq) : Nat := bf nT s.facts + 1 + s.goal.xs.length
abbrev dg (p : Pth) : Nat := 2 + bf nT p.facts + bf nT p.ends + p.ev.length
def lX (g : Gs) : Prop := ∀ p ∈ g.paths, dg p ≤ 1000
def FsOk (fs : List Tm) : Prop := ∀ t ∈ fs, t.ok = true
theorem pd {t : Tm} : (bo t).1.ok = true := by
 unfold bo pp qj; split
 assumption
 rfl
theorem l4 : ∀ {fs : List Tm}, FsOk fs → bf nT fs ≤ 11 * fs.length
 | [], _ => by simp [bf]
 | t :: fs, h => by
  have h1 := l4 (fs := fs) fun t ht => h t (by simp [ht])
  have h2 := kn (h t (by simp))
  have h3 : nT t = 1 + t.xs.length := rfl
  simp only [bf, List.map_cons, List.sum_cons, List.length_cons] at h1 ⊢
  omega
theorem FsOk.snoc {fs : List Tm} (h : FsOk fs) {t : Tm} (ht : t.ok = true) : FsOk (fs ++ [t]) := fun u hu => by
 rcases List.mem_append.1 hu with h1 | h1
 exact h u h1
 rw [List.mem_singleton.1 h1]; exact ht
theorem rX {frm to : Int} {w : Pw} (h : WOk 0 w) (hf : FsOk w.facts) : dg ⟨frm, to, w.facts, w.vars, w.ev⟩ ≤ 1000 := by
 have h1 := l4 hf
 have h2 := l4 h.ok
 have h3 := h.vars
 have h4 := h.facts
 have h5 := h.ev
 show 2 + bf nT w.facts + bf nT w.vars + w.ev.length ≤ 1000
 omega
theorem nJ {frm to : Int} {w : Pw} (hw : WOk 0 w) (hf : FsOk w.facts) {fs : List Tm} {g : Gs} (h : lX g) : lX (cG frm w to fs g) := fun p hp => by
 unfold cG fq at hp
 rw [dL] at hp
 rcases List.mem_append.1 hp with h1 | h1
 exact h p h1
 rw [List.mem_singleton.1 h1]; exact rX hw hf
theorem kL {la : ct} {s : Sm} {w : Pw} {g : Gs} : (bC la s w g).2.paths = g.paths := by
 unfold bC
 split
 rfl
 split
 split <;> rfl
 split
 rfl
 split
 rfl
 split <;> rfl
theorem kM {la : ct} {s : Sm} {w : Pw} {g : Gs} (h : FsOk w.facts) : FsOk (bC la s w g).1.facts := by
 unfold bC
 split
 exact h
 split
 split <;> exact h
 split
 exact h
 split
 exact h
 split
 exact h.snoc dq
 exact h
theorem gf {la : ct} {E : Pe} {frm : Int} : ∀ {n : Nat} {r : List Fr} {w : Pw} {g : Gs}, WOk n w → FsOk w.facts → lX g → lX (dz la E frm n r w g)
 | 0, r, w, g, hw, hf, hg => hg
 | n + 1, r, w, g, hw, hf, hg => by
  have w0 := hw.le (Nat.zero_le _)
  have w1 := hw.le (Nat.le_succ n)
  cases hb : g.bad with
  | true => rw [ce hb]; exact hg
  | false =>
   match r with
   | [] => rw [eo hb]; exact nJ w0 hf hg
   | .lp k :: r => rw [fK hb]; exact nJ w0 hf hg
   | .st (.node s a []) :: r =>
    rw [dD hb]
    exact gf hw.leaf (kM hf) (fun p hp => hg p (by rw [kL] at hp; exact hp))
   | .st (.node s a [x]) :: r => rw [fJ hb]; exact nJ w0 hf hg
   | .st (.node s a [x, y]) :: r =>
    by_cases hk : s.kind = 1
    rw [em hb hk]; exact gf w1 hf hg
    rw [fL hb hk]
    exact gf hw.fact (hf.snoc pd) (gf hw.fact (hf.snoc dq) hg)
   | .st (.node s a (x :: y :: z :: ks)) :: r =>
    rw [fu hb]
    exact gf hw.leaf (kM hf) (fun p hp => hg p (by rw [kL] at hp; exact hp))
theorem q7 {la : ct} {E : Pe} {b : List Sm} {t : Tr} {pre : List Tm} {n : Nat} {g : Gs} (hp : TsOk pre ∧ pre.length ≤ 6) (hs : ∀ m, n = m + 1 → TsOk ((aQ b t []).getD m default).s.facts ∧ ((aQ b t []).getD m default).s.facts.length ≤ 6) (hg : lX g) : lX (bP la E b t pre n g) := by
 cases n with
 | zero =>
  rw [bP]
  exact gf (lh (by omega)) (fun t ht => (hp.1 t ht).1) hg
 | succ n =>
  obtain ⟨h1, h2⟩ := hs n rfl
  rw [bP]
  have hw := lh (n := 32) (fs := ((aQ b t []).getD n default).s.facts) (by omega)
  have hf : FsOk (w0 ((aQ b t []).getD n default).s.facts).facts := fun t ht => (h1 t ht).1
  exact gf hw.fact (hf.snoc pd) (gf hw.fact (hf.snoc dq) hg)
theorem nK : ∀ {ps : List Pth}, (∀ p ∈ ps, dg p ≤ 1000) → bf dg ps ≤ 1000 * ps.length
 | [], _ => by simp [bf]
 | p :: ps, h => by
  have h1 := nK (ps := ps) fun p hp => h p (by simp [hp])
  have h2 := h p (by simp)
  simp only [bf, List.map_cons, List.sum_cons, List.length_cons] at h1 h2 ⊢
  omega
theorem sm {la : ct} {p : Pm} {t : Tr} (ht : PtOk p t) {n : Nat} (hn : n ≤ aS p.body p.body.length) {g : Gs} (hg : lX g) : lX (fI la p t n g) := by
 unfold fI
 refine q7 (eO ht.pre) (fun m hm => ?_) hg
 obtain ⟨hq, _⟩ := gJ ht.tree (n := m) (by omega)
 have hat := (po ht.tree (r := [])).at_ _ hq
 have hst := ht.st _ hat.2.1
 rw [← hat.2.2.2] at hst
 exact eh hst
theorem qx {p : Pm} {t : Tr} (ht : PtOk p t) : ∀ {n : Nat}, n ≤ aS p.body p.body.length + 1 → lX (ja p t n)
 | 0, _ => fun p hp => by cases hp
 | n + 1, h => by
  rw [ja]
  exact sm ht (by omega) (qx ht (by omega))
theorem lO {ss : List Sq} (h : de ss = true) : bf nQ ss ≤ 20000 := by
 unfold de at h
 simp only [Bool.and_eq_true, decide_eq_true_eq] at h
 have key : ∀ l : List Sq, (∀ s ∈ l, k9 s = true) → bf nQ l ≤ 200 * l.length := by
  intro l hl
  induction l with
  | nil => simp [bf]
  | cons s r ih =>
   have h1 := ih fun s hs => hl s (by simp [hs])
   have h2 := hl s (by simp)
   have e : nQ s = bf nT s.facts + 1 + s.goal.xs.length := rfl
   unfold k9 ea at h2
   simp only [Bool.and_eq_true, decide_eq_true_eq] at h2
   have h3 := l4 (fs := s.facts) fun t ht => List.all_eq_true.1 h2.1.1 t ht
   have h4 := kn h2.2
   have h5 := h2.1.2
   simp only [bf, List.map_cons, List.sum_cons, List.length_cons] at h1 ⊢
   omega
 have := key ss (List.all_eq_true.1 h.1)
 omega
abbrev oX (ss : List Sq) : A := .c (.d (e6 ss))
abbrev u6 (p : Pth) : A := .agg (p.cells.map .d)
abbrev oY (ps : List Pth) : A := .c (.d (f7 ps))
abbrev f8 (k : Int) (p : Pth) : Pth := ⟨k, k + 1, aH mT nT (k + 1 + 1) p.facts, aH mT nT (k + 1 + 1 + bf nT p.facts) p.ends, aH mI bW (k + 1 + 1 + bf nT p.facts + bf nT p.ends) p.ev⟩
theorem qe {xs ys : List Sq} : MQ h1 h2 20 [.c (.d (e6 xs)), .c (.d (e6 ys))] [] (Plain (eB (decide (xs = ys)))) := by
 refine av ?_ Z
 refine jB 27 h1 h2 Tryz.func20 Z Z Z fun O hF => ?_
 have hl : xs.length ≤ L := by simpa [As.fact, A.fact, M.fact, D.fact, Ds.fact] using hF.1.1
 have hl2 : ys.length ≤ L := by simpa [As.fact, A.fact, M.fact, D.fact, Ds.fact] using hF.2.1.1
 refine ag (js O Z (jn (AWP.seq (ag (js O Z ?_)))))
 first | refine cy O Z Z Z Z Z Z Z Z Z Z Z ?_ | refine js O Z ?_ | refine aY O Z Z Z Z Z ?_
 refine js O Z ?_
 first | refine cy O Z Z Z Z Z Z Z Z Z Z Z ?_ | refine js O Z ?_ | refine aY O Z Z Z Z Z ?_
 refine js O Z (jn (AWP.cond O Z Z (fun hc10 => ?_) (fun hc10 => ?_)))
 try simp only [bg] at hc10
 refine ag (js O Z (jn (AWP.ret ?_)))
 refine ⟨.inl Z, _, Ent.refl, _, Z, ?_⟩
 rw [decide_eq_false (fun e => by subst e; simp at hc10)]
 try simp only [bg] at hc10
 refine AWP.skip (AWP.seq (ag (js O Z (jn (AWP.block (az (X := Nat) (fun i => ⟨[(0, .c (.d (e6 xs))), (1, .c (.d (e6 ys))), (5, eI i)], []⟩) (fun i => i ≤ xs.length ∧ ∀ j, j < i → xs[j]? = ys[j]?) (fun i => xs.length - i) 0 (Ent.env ⟨Z, Z, Z, trivial⟩) ?_ (fun i hi => ?_)))))))
 exact ⟨Nat.zero_le _, fun j hj => absurd hj (Nat.not_lt_zero j)⟩
 refine AWP.seq (ag (j2 O Z Z ?_))
 first | refine cy O Z Z Z Z Z Z Z Z Z Z Z ?_ | refine js O Z ?_ | refine aY O Z Z Z Z Z ?_
 refine js O Z (jn (AWP.cond O Z Z (fun hc14 => ?_) (fun hc14 => ?_)))
 try simp only [bg] at hc14
 refine AWP.skip (AWP.seq (AWP.block (AWP.seq (f6 O [_,_,_,_,_,_,_,_,_,_] [pn [] 0 0, pn [] 0 0, pn [0,1] 0 0, pn [0,1,2] 0 0, pn [] 0 0, pn [] 0 0, pn [4,5] 0 0, pn [4,5,6] 0 0, pe [0,1,2,3,4,5,6,7] 0, pn [0,1,2,3,4,5,6,7,8] 1 1] [8] [_,_] (kc O Z (kc O Z (ai (aV O Z Z Z Z Z Z Z Z (by first | omega | (simp at *; omega)) (cJ (by first | omega | (simp at *; omega)) (by first | omega | (simp at *; omega)))) (kc O Z (kc O Z (kc O Z (ai (aV O Z Z Z Z Z Z Z Z (by first | omega | (simp at *; omega)) (cJ (by first | omega | (simp at *; omega)) (by first | omega | (simp at *; omega)))) (kc O Z (ai (cb O (B0 := 26000) Z Z Z Z (c36 h1 h2) (ab Z) Z Z Z Z Z) (kc O Z trivial)))))))))) ?_))))
 refine AWP.cond O Z Z (fun hc26 => ?_) (fun hc26 => ?_)
 try simp only [bg] at hc26
 refine ag (js O Z (jn (AWP.ret ?_)))
 refine ⟨.inl Z, _, Ent.refl, _, Z, ?_⟩
 rw [decide_eq_false (fun e => by subst e; simp at hc26)]
 try simp only [bg] at hc26
 refine AWP.skip (AWP.region (js O Z ?_))
 first | refine ji O Z ?_ | refine aY O Z Z Z Z Z ?_
 refine js O Z (jn ?_)
 refine ⟨i + 1, Ent.env ⟨Z, Z, Z, trivial⟩, ⟨by omega, fun j hj => ?_⟩, by omega⟩
 rcases Nat.lt_or_ge j i with h | h
 exact hi.2 j h
 obtain rfl : j = i := by omega
 rw [Int.toNat_natCast, aI (by omega), aI (by omega)] at hc26
 rw [List.getElem?_eq_getElem (by omega), List.getElem?_eq_getElem (by omega), hc26]
 try simp only [bg] at hc14
 refine AWP.exit (ag (js O Z (jn (AWP.ret ?_))))
 refine ⟨.inl Z, _, Ent.refl, _, Z, ?_⟩
 have e : xs = ys := List.ext_getElem? fun j => by
  rcases Nat.lt_or_ge j i with h | h
  ·
   exact hi.2 j h
  ·
   rw [List.getElem?_eq_none (by omega), List.getElem?_eq_none (by omega)]
 rw [decide_eq_true e]
theorem vI {s t : Pth} : MQ h1 h2 33 [u6 s, u6 t] [] (Plain (eB (decide (s = t)))) := by
 refine av ?_ Z
 refine jB 33 h1 h2 Tryz.func33 Z Z Z fun O hF => ?_
 refine ag (jx O Z Z Z Z Z Z Z Z (jx O Z Z Z Z Z Z Z Z (js O Z (jn (AWP.seq (ag (j4 O Z Z Z Z (js O Z (jn (AWP.cond O Z Z (fun hc9 => ?_) (fun hc9 => ?_)))))))))))
 try simp only [bg] at hc9
 refine ag (js O Z (jn (AWP.ret ?_)))
 refine ⟨.inl Z, _, Ent.refl, _, Z, ?_⟩
 rw [decide_eq_false (fun e => hc9 (by rw [e]))]
 try simp only [bg] at hc9
 refine AWP.skip (AWP.seq (ag (j4 O Z Z Z Z (js O Z (jn (AWP.cond O Z Z (fun hc14 => ?_) (fun hc14 => ?_)))))))
 try simp only [bg] at hc14
 refine ag (js O Z (jn (AWP.ret ?_)))
 refine ⟨.inl Z, _, Ent.refl, _, Z, ?_⟩
 rw [decide_eq_false (fun e => hc14 (by rw [e]))]
 try simp only [bg] at hc14
 refine AWP.skip (AWP.seq (ag (j4 O Z Z Z Z (ae O Z Z Z Z (ue h1 h2) (ab Z) Z Z Z Z Z (B0 := 20000) Z (js O Z (jn (AWP.cond O Z Z (fun hc20 => ?_) (fun hc20 => ?_))))))))
 try simp only [bg] at hc20
 refine ag (js O Z (jn (AWP.ret ?_)))
 refine ⟨.inl Z, _, Ent.refl, _, Z, ?_⟩
 rw [decide_eq_false (fun e => hc20 (by rw [e]))]
 try simp only [bg] at hc20
 refine AWP.skip (AWP.seq (ag (j4 O Z Z Z Z (ae O Z Z Z Z (ue h1 h2) (ab Z) Z Z Z Z Z (B0 := 26000) Z (js O Z (jn (AWP.cond O Z Z (fun hc26 => ?_) (fun hc26 => ?_))))))))
 try simp only [bg] at hc26
 refine ag (js O Z (jn (AWP.ret ?_)))
 refine ⟨.inl Z, _, Ent.refl, _, Z, ?_⟩
 rw [decide_eq_false (fun e => hc26 (by rw [e]))]
 try simp only [bg] at hc26
 refine AWP.skip (AWP.seq (ag (j4 O Z Z Z Z (ae O Z Z Z Z (xh h1 h2) (ab Z) Z Z Z Z Z (B0 := 32000) Z (js O Z (jn (AWP.cond O Z Z (fun hc32 => ?_) (fun hc32 => ?_))))))))
 try simp only [bg] at hc32
 refine ag (js O Z (jn (AWP.ret ?_)))
 refine ⟨.inl Z, _, Ent.refl, _, Z, ?_⟩
 rw [decide_eq_false (fun e => hc32 (by rw [e]))]
 try simp only [bg] at hc32
 refine AWP.skip (ag (js O Z (jn (AWP.ret ?_))))
 refine ⟨.inl Z, _, Ent.refl, _, Z, ?_⟩
 have e : s = t := by cases s; cases t; simp_all
 rw [decide_eq_true e]
theorem f5 {xs ys : List Pth} : MQ h1 h2 11 [.c (.d (f7 xs)), .c (.d (f7 ys))] [] (Plain (eB (decide (xs = ys)))) := by
 refine av ?_ Z
 refine jB 27 h1 h2 Tryz.func11 Z Z Z fun O hF => ?_
 have hl : xs.length ≤ L := by simpa [As.fact, A.fact, M.fact, D.fact, Ds.fact] using hF.1.1
 have hl2 : ys.length ≤ L := by simpa [As.fact, A.fact, M.fact, D.fact, Ds.fact] using hF.2.1.1
 refine ag (js O Z (jn (AWP.seq (ag (js O Z ?_)))))
 first | refine cy O Z Z Z Z Z Z Z Z Z Z Z ?_ | refine js O Z ?_ | refine aY O Z Z Z Z Z ?_
 refine js O Z ?_
 first | refine cy O Z Z Z Z Z Z Z Z Z Z Z ?_ | refine js O Z ?_ | refine aY O Z Z Z Z Z ?_
 refine js O Z (jn (AWP.cond O Z Z (fun hc10 => ?_) (fun hc10 => ?_)))
 try simp only [bg] at hc10
 refine ag (js O Z (jn (AWP.ret ?_)))
 refine ⟨.inl Z, _, Ent.refl, _, Z, ?_⟩
 rw [decide_eq_false (fun e => by subst e; simp at hc10)]
 try simp only [bg] at hc10
 refine AWP.skip (AWP.seq (ag (js O Z (jn (AWP.block (az (X := Nat) (fun i => ⟨[(0, .c (.d (f7 xs))), (1, .c (.d (f7 ys))), (5, eI i)], []⟩) (fun i => i ≤ xs.length ∧ ∀ j, j < i → xs[j]? = ys[j]?) (fun i => xs.length - i) 0 (Ent.env ⟨Z, Z, Z, trivial⟩) ?_ (fun i hi => ?_)))))))
 exact ⟨Nat.zero_le _, fun j hj => absurd hj (Nat.not_lt_zero j)⟩
 refine AWP.seq (ag (j2 O Z Z ?_))
 first | refine cy O Z Z Z Z Z Z Z Z Z Z Z ?_ | refine js O Z ?_ | refine aY O Z Z Z Z Z ?_
 refine js O Z (jn (AWP.cond O Z Z (fun hc14 => ?_) (fun hc14 => ?_)))
 try simp only [bg] at hc14
 refine AWP.skip (AWP.seq (AWP.block (AWP.seq (f6 O [_,_,_,_,_,_,_,_,_,_] [pn [] 0 0, pn [] 0 0, pn [0,1] 0 0, pn [0,1,2] 0 0, pn [] 0 0, pn [] 0 0, pn [4,5] 0 0, pn [4,5,6] 0 0, pe [0,1,2,3,4,5,6,7] 0, pn [0,1,2,3,4,5,6,7,8] 1 1] [8] [_,_] (kc O Z (kc O Z (ai (aV O Z Z Z Z Z Z Z Z (by first | omega | (simp at *; omega)) (cJ (by first | omega | (simp at *; omega)) (by first | omega | (simp at *; omega)))) (kc O Z (kc O Z (kc O Z (ai (aV O Z Z Z Z Z Z Z Z (by first | omega | (simp at *; omega)) (cJ (by first | omega | (simp at *; omega)) (by first | omega | (simp at *; omega)))) (kc O Z (ai (cb O (B0 := 26000) Z Z Z Z (vI h1 h2) (ab Z) Z Z Z Z Z) (kc O Z trivial)))))))))) ?_))))
 refine AWP.cond O Z Z (fun hc26 => ?_) (fun hc26 => ?_)
 try simp only [bg] at hc26
 refine ag (js O Z (jn (AWP.ret ?_)))
 refine ⟨.inl Z, _, Ent.refl, _, Z, ?_⟩
 rw [decide_eq_false (fun e => by subst e; simp at hc26)]
 try simp only [bg] at hc26
 refine AWP.skip (AWP.region (js O Z ?_))
 first | refine ji O Z ?_ | refine aY O Z Z Z Z Z ?_
 refine js O Z (jn ?_)
 refine ⟨i + 1, Ent.env ⟨Z, Z, Z, trivial⟩, ⟨by omega, fun j hj => ?_⟩, by omega⟩
 rcases Nat.lt_or_ge j i with h | h
 exact hi.2 j h
 obtain rfl : j = i := by omega
 rw [Int.toNat_natCast, aI (by omega), aI (by omega)] at hc26
 rw [List.getElem?_eq_getElem (by omega), List.getElem?_eq_getElem (by omega), hc26]
 try simp only [bg] at hc14
 refine AWP.exit (ag (js O Z (jn (AWP.ret ?_))))
 refine ⟨.inl Z, _, Ent.refl, _, Z, ?_⟩
 have e : xs = ys := List.ext_getElem? fun j => by
  rcases Nat.lt_or_ge j i with h | h
  ·
   exact hi.2 j h
  ·
   rw [List.getElem?_eq_none (by omega), List.getElem?_eq_none (by omega)]
 rw [decide_eq_true e]
theorem qU {k : Int} : MQ h1 h2 21 [.c (.d (e6 [])), eI k] [] (Plain (eI k)) := by
 refine av ?_ Z
 refine jB 36 h1 h2 Tryz.func21 Z Z Z fun O hF => ?_
 refine ag (js O Z (jn (AWP.seq (ag (js O Z (jn (AWP.block (az (X := Nat) (fun i => ⟨[(0, .c (.d (e6 []))), (1, eI k), (5, eI 0)], []⟩) (fun i => True) (fun i => 0) 0 (Ent.env ⟨Z, Z, Z, trivial⟩) ?_ (fun i hi => ?_)))))))))
 trivial
 refine AWP.seq (ag (j2 O Z Z ?_))
 first | refine cy O Z Z Z Z Z Z Z Z Z Z Z ?_ | refine js O Z ?_ | refine aY O Z Z Z Z Z ?_
 refine js O Z (jn (AWP.cond O Z Z (fun hc9 => ?_) (fun hc9 => ?_)))
 try simp only [bg] at hc9
 exact absurd hc9 (by simp)
 try simp only [bg] at hc9
 refine AWP.exit (ag (j2 O Z Z (jn (AWP.ret ?_))))
 refine ⟨.inl Z, _, Ent.refl, _, Z, ?_⟩
 first | rfl | skip
theorem sM {ts : List Sq} {k : Int} (hk0 : 0 ≤ k) (hk1 : k + bf nQ ts ≤ 1073741824) : MQ h1 h2 21 [.c (.rs 0 0 ts.length), eI k] [(0, ay ts)] (aZ (eI (k + bf nQ ts)) [(0, ay (aH mQ nQ k ts))]) := by
 refine jH 36 [0] h1 h2 Tryz.func21 Z Z Z Z fun O hF => ?_
 refine fG 0 Z (fun hB => ?_)
 have hl : ts.length ≤ L := by simpa [B.fact] using hB.1
 refine ag (js O Z (jn (AWP.seq (ag (js O Z (jn (AWP.block (az (X := Nat) (fun i => ⟨[(0, .c (.rs 0 0 ts.length)), (1, eI (k + bf nQ (ts.take i))), (5, eI i)], [(0, ay (mk mQ nQ k i ts))]⟩) (fun i => i ≤ ts.length) (fun i => ts.length - i) 0 (Ent.to ⟨Z, by simp [bL, ar, bf], Z, trivial⟩ (by simp [iJ])) ?_ (fun i hi => ?_)))))))))
 exact Nat.zero_le _
 refine AWP.seq (ag (j2 O Z Z ?_))
 first | refine cy O Z Z Z Z Z Z Z Z Z Z Z ?_ | refine js O Z ?_ | refine aY O Z Z Z Z Z ?_
 refine js O Z (jf [9,0,1,5] Z (jn (AWP.cond O Z Z (fun hc9 => ?_) (fun hc9 => ?_))))
 try simp only [bg] at hc9
 refine AWP.skip (AWP.seq (AWP.block (ag ?_)))
 obtain ⟨K, hK⟩ : ∃ K, K = k + (bf nQ (ts.take i) : Int) := ⟨_, rfl⟩
 rw [← hK]
 have hcs := eQ (sz := nQ) (show i < ts.length by omega)
 have hcl := il (sz := nQ) (l := ts) (i := i + 1)
 have hg := je (f := mQ) (sz := nQ) (k := k) (show i < ts.length by omega)
 have hs := gG (f := mQ) (sz := nQ) (k := k) (show i < ts.length by omega)
 rw [← aI (show i < ts.length by omega)] at hcs hg hs
 obtain ⟨t, ht⟩ : ∃ t, t = ts.getD i default := ⟨_, rfl⟩
 rw [← ht] at hcs hg hs
 rw [← hK] at hs
 simp only [nQ] at hcs
 have hb : K + (bf nT t.facts + 1 + t.goal.xs.length : Nat) ≤ 1073741824 := by omega
 obtain ⟨R, hR⟩ : ∃ R, R = (mk mQ nQ k i ts).map Sq.cells := ⟨_, rfl⟩
 have hRl : i < R.length := by rw [hR, List.length_map, fA]; omega
 have hRi : R[i]? = some (Sq.cells t) := by rw [hR, List.getElem?_map, hg]; rfl
 have hRn : R.set i (Sq.cells (mQ K t)) = (mk mQ nQ k (i + 1) ts).map Sq.cells := by rw [hR, ← hs, List.map_set]
 have e0 : ay (mk mQ nQ k i ts) = .row true 3 (R.set i (Sq.cells t)) := by rw [gQ hRi, hR]
 rw [e0]
 refine j2 O Z Z ?_
 first | refine dR O Z Z Z Z Z Z Z Z Z Z Z ?_ | refine aY O Z Z Z Z Z ?_
 refine js O Z (aa (bO O (ex := [bX (t.facts), .int .i64 (t.goal.c), bp (t.goal.xs)]) Z Z Z Z (by simp [hRl]) Z) Z Z Z (js O Z (jf [17,16,9,0,1,5] Z (cM O (l := 0) (j := 0) (z := 2) (ex := [bX (t.facts), .int .i64 (t.goal.c), bp (t.goal.xs)]) (ys := (t.facts).map Tm.cells) (ys' := (aH mT nT K t.facts).map Tm.cells) (xs' := R.set i [bX (aH mT nT K t.facts), .int .i64 (t.goal.c), bp (t.goal.xs)]) Z Z Z Z (.rp (.d Z .nil)) (.rp (.d Z .nil)) Z (by simp [hRl]) Z (rA (ts := t.facts) (k := K) h1 h2 (by omega) (by omega)).1 (fun _ => by rw [List.length_map]; exact rA (ts := t.facts) h1 h2 (by omega) (by omega)) (fun hys => ?_) Z (by simp [aK]) Z Z Z Z (by simp) ?_))))
 have hy : t.facts = [] := by simpa using hys
 rw [hy]
 exact (rO h1 h2 (k := K)).plain (by simp [bf, hy])
 refine aq ?_
 refine js O Z (jf [1,9,0,5] Z (aP (j3 O Z Z Z ?_)))
 first | refine dR O Z Z Z Z Z Z Z Z Z Z Z ?_ | refine aY O Z Z Z Z Z ?_
 refine j2 O Z Z (jf [24,21,1,9,0,5] Z (AOps.heap (bq (ex := [bX (aH mT nT K t.facts), .int .i64 (t.goal.c), bp (t.goal.xs)]) (xs' := R.set i [bX (aH mT nT K t.facts), .int .i64 (K + bf nT t.facts), bp (t.goal.xs)]) O Z Z Z Z Z Z Z Z Z Z Z Z Z Z (by simp [hRl]) (by simp)) Z (aq ?_)))
 refine jf [1,9,0,5] Z (aP (js O Z ?_))
 first | refine ji O Z ?_ | refine aY O Z Z Z Z Z ?_
 refine js O Z (jf [1,9,0,5] Z (jn (AWP.region (j2 O Z Z ?_))))
 first | refine dR O Z Z Z Z Z Z Z Z Z Z Z ?_ | refine aY O Z Z Z Z Z ?_
 refine j2 O Z Z (aa (bO O (ex := [bX (aH mT nT K t.facts), .int .i64 (K + bf nT t.facts), bp (t.goal.xs)]) Z Z Z Z (by simp [hRl]) Z) Z Z Z (js O Z (jf [33,32,1,9,0,5] Z (cM O (l := 0) (j := 2) (z := 1) (ex := [bX (aH mT nT K t.facts), .int .i64 (K + bf nT t.facts), bp (t.goal.xs)]) (ys := (t.goal.xs).map (fun n => [D.int .i64 n])) (ys' := (aH mI bW (K + bf nT t.facts + 1) t.goal.xs).map (fun n => [D.int .i64 n])) (xs' := R.set i [bX (aH mT nT K t.facts), .int .i64 (K + bf nT t.facts), bp (aH mI bW (K + bf nT t.facts + 1) t.goal.xs)]) Z Z Z Z (.rp (.d Z .nil)) (.rp (.d Z .nil)) Z (by simp [hRl]) Z (rB (xs := t.goal.xs) (k := (K + bf nT t.facts + 1)) h1 h2 (by omega) (by omega)).1 (fun _ => by rw [List.length_map]; exact rB (xs := t.goal.xs) h1 h2 (by omega) (by omega)) (fun hys => ?_) Z (by simp [aK]) Z Z Z Z (by simp) ?_))))
 have hy : t.goal.xs = [] := by simpa using hys
 rw [hy]
 exact (qo h1 h2 (k := (K + bf nT t.facts + 1))).plain (by simp [bf, hy])
 refine aq ?_
 refine js O Z (jf [1,9,0,5] Z (jn (AWP.region (js O Z ?_))))
 first | refine ji O Z ?_ | refine aY O Z Z Z Z Z ?_
 refine js O Z (jf [5,1,9,0] Z (jn ?_))
 refine ⟨i + 1, Ent.to ⟨Z, ?_, Z, trivial⟩ (by rw [ay, ← hRn]), by omega, by omega⟩
 rw [hcs]
 exact congrArg (fun z => some (eI z)) (by omega)
 try simp only [bg] at hc9
 refine AWP.exit (ag (j2 O Z Z (jn (AWP.ret ?_))))
 refine ⟨.inl Z, _, Ent.refl, _, Z, ?_⟩
 obtain rfl : i = ts.length := by omega
 rw [ko (Nat.le_refl _), List.take_length]
 exact ⟨Z, Z⟩
theorem qS {k : Int} : MQ h1 h2 14 [.c (.d (f7 [])), eI k] [] (Plain (eI k)) := by
 refine av ?_ Z
 refine jB 48 h1 h2 Tryz.func14 Z Z Z fun O hF => ?_
 refine ag (js O Z (jn (AWP.seq (ag (js O Z (jn (AWP.block (az (X := Nat) (fun i => ⟨[(0, .c (.d (f7 []))), (1, eI k), (5, eI 0)], []⟩) (fun i => True) (fun i => 0) 0 (Ent.env ⟨Z, Z, Z, trivial⟩) ?_ (fun i hi => ?_)))))))))
 trivial
 refine AWP.seq (ag (j2 O Z Z ?_))
 first | refine cy O Z Z Z Z Z Z Z Z Z Z Z ?_ | refine js O Z ?_ | refine aY O Z Z Z Z Z ?_
 refine js O Z (jn (AWP.cond O Z Z (fun hc9 => ?_) (fun hc9 => ?_)))
 try simp only [bg] at hc9
 exact absurd hc9 (by simp)
 try simp only [bg] at hc9
 refine AWP.exit (ag (j2 O Z Z (jn (AWP.ret ?_))))
 refine ⟨.inl Z, _, Ent.refl, _, Z, ?_⟩
 first | rfl | skip
theorem sL {ts : List Pth} {k : Int} (hk0 : 0 ≤ k) (hk1 : k + bf dg ts ≤ 1073741824) : MQ h1 h2 14 [.c (.rs 0 0 ts.length), eI k] [(0, ax ts)] (aZ (eI (k + bf dg ts)) [(0, ax (aH f8 dg k ts))]) := by
 refine jH 48 [0] h1 h2 Tryz.func14 Z Z Z Z fun O hF => ?_
 refine fG 0 Z (fun hB => ?_)
 have hl : ts.length ≤ L := by simpa [B.fact] using hB.1
 refine ag (js O Z (jn (AWP.seq (ag (js O Z (jn (AWP.block (az (X := Nat) (fun i => ⟨[(0, .c (.rs 0 0 ts.length)), (1, eI (k + bf dg (ts.take i))), (5, eI i)], [(0, ax (mk f8 dg k i ts))]⟩) (fun i => i ≤ ts.length) (fun i => ts.length - i) 0 (Ent.to ⟨Z, by simp [bL, ar, bf], Z, trivial⟩ (by simp [iJ])) ?_ (fun i hi => ?_)))))))))
 exact Nat.zero_le _
 refine AWP.seq (ag (j2 O Z Z ?_))
 first | refine cy O Z Z Z Z Z Z Z Z Z Z Z ?_ | refine js O Z ?_ | refine aY O Z Z Z Z Z ?_
 refine js O Z (jf [9,0,1,5] Z (jn (AWP.cond O Z Z (fun hc9 => ?_) (fun hc9 => ?_))))
 try simp only [bg] at hc9
 refine AWP.skip (AWP.seq (AWP.block (ag ?_)))
 obtain ⟨K, hK⟩ : ∃ K, K = k + (bf dg (ts.take i) : Int) := ⟨_, rfl⟩
 rw [← hK]
 have hcs := eQ (sz := dg) (show i < ts.length by omega)
 have hcl := il (sz := dg) (l := ts) (i := i + 1)
 have hg := je (f := f8) (sz := dg) (k := k) (show i < ts.length by omega)
 have hs := gG (f := f8) (sz := dg) (k := k) (show i < ts.length by omega)
 rw [← aI (show i < ts.length by omega)] at hcs hg hs
 obtain ⟨t, ht⟩ : ∃ t, t = ts.getD i default := ⟨_, rfl⟩
 rw [← ht] at hcs hg hs
 rw [← hK] at hs
 simp only [dg] at hcs
 have hb : K + (2 + bf nT t.facts + bf nT t.ends + t.ev.length : Nat) ≤ 1073741824 := by omega
 obtain ⟨R, hR⟩ : ∃ R, R = (mk f8 dg k i ts).map Pth.cells := ⟨_, rfl⟩
 have hRl : i < R.length := by rw [hR, List.length_map, fA]; omega
 have hRi : R[i]? = some (Pth.cells t) := by rw [hR, List.getElem?_map, hg]; rfl
 have hRn : R.set i (Pth.cells (f8 K t)) = (mk f8 dg k (i + 1) ts).map Pth.cells := by rw [hR, ← hs, List.map_set]
 have e0 : ax (mk f8 dg k i ts) = .row true 5 (R.set i (Pth.cells t)) := by rw [gQ hRi, hR]
 rw [e0]
 refine j3 O Z Z Z ?_
 first | refine dR O Z Z Z Z Z Z Z Z Z Z Z ?_ | refine aY O Z Z Z Z Z ?_
 refine js O Z (jf [16,14,9,0,1,5] Z (AOps.heap (bq (ex := [.int .i64 (t.frm), .int .i64 (t.to), bX (t.facts), bX (t.ends), bp (t.ev)]) (xs' := R.set i [.int .i64 (K), .int .i64 (t.to), bX (t.facts), bX (t.ends), bp (t.ev)]) O Z Z Z Z Z Z Z Z Z Z Z Z Z Z (by simp [hRl]) (by simp)) Z (aq ?_)))
 refine jf [9,0,1,5] Z (aP (js O Z ?_))
 first | refine ji O Z ?_ | refine aY O Z Z Z Z Z ?_
 refine js O Z (jf [1,9,0,5] Z (aP (j3 O Z Z Z ?_)))
 first | refine dR O Z Z Z Z Z Z Z Z Z Z Z ?_ | refine aY O Z Z Z Z Z ?_
 refine js O Z (jf [23,21,1,9,0,5] Z (AOps.heap (bq (ex := [.int .i64 (K), .int .i64 (t.to), bX (t.facts), bX (t.ends), bp (t.ev)]) (xs' := R.set i [.int .i64 (K), .int .i64 (K + 1), bX (t.facts), bX (t.ends), bp (t.ev)]) O Z Z Z Z Z Z Z Z Z Z Z Z Z Z (by simp [hRl]) (by simp)) Z (aq ?_)))
 refine jf [1,9,0,5] Z (aP (js O Z ?_))
 first | refine ji O Z ?_ | refine aY O Z Z Z Z Z ?_
 refine js O Z (jf [1,9,0,5] Z (aP (j2 O Z Z ?_)))
 first | refine dR O Z Z Z Z Z Z Z Z Z Z Z ?_ | refine aY O Z Z Z Z Z ?_
 refine js O Z (aa (bO O (ex := [.int .i64 (K), .int .i64 (K + 1), bX (t.facts), bX (t.ends), bp (t.ev)]) Z Z Z Z (by simp [hRl]) Z) Z Z Z (js O Z (jf [31,30,1,9,0,5] Z (cM O (l := 0) (j := 2) (z := 2) (ex := [.int .i64 (K), .int .i64 (K + 1), bX (t.facts), bX (t.ends), bp (t.ev)]) (ys := (t.facts).map Tm.cells) (ys' := (aH mT nT (K + 1 + 1) t.facts).map Tm.cells) (xs' := R.set i [.int .i64 (K), .int .i64 (K + 1), bX (aH mT nT (K + 1 + 1) t.facts), bX (t.ends), bp (t.ev)]) Z Z Z Z (.rp (.d Z .nil)) (.rp (.d Z .nil)) Z (by simp [hRl]) Z (rA (ts := t.facts) (k := (K + 1 + 1)) h1 h2 (by omega) (by omega)).1 (fun _ => by rw [List.length_map]; exact rA (ts := t.facts) h1 h2 (by omega) (by omega)) (fun hys => ?_) Z (by simp [aK]) Z Z Z Z (by simp) ?_))))
 have hy : t.facts = [] := by simpa using hys
 rw [hy]
 exact (rO h1 h2 (k := (K + 1 + 1))).plain (by simp [bf, hy])
 refine aq ?_
 refine js O Z (jf [1,9,0,5] Z (aP (j2 O Z Z ?_)))
 first | refine dR O Z Z Z Z Z Z Z Z Z Z Z ?_ | refine aY O Z Z Z Z Z ?_
 refine js O Z (aa (bO O (ex := [.int .i64 (K), .int .i64 (K + 1), bX (aH mT nT (K + 1 + 1) t.facts), bX (t.ends), bp (t.ev)]) Z Z Z Z (by simp [hRl]) Z) Z Z Z (js O Z (jf [38,37,1,9,0,5] Z (cM O (l := 0) (j := 3) (z := 2) (ex := [.int .i64 (K), .int .i64 (K + 1), bX (aH mT nT (K + 1 + 1) t.facts), bX (t.ends), bp (t.ev)]) (ys := (t.ends).map Tm.cells) (ys' := (aH mT nT (K + 1 + 1 + bf nT t.facts) t.ends).map Tm.cells) (xs' := R.set i [.int .i64 (K), .int .i64 (K + 1), bX (aH mT nT (K + 1 + 1) t.facts), bX (aH mT nT (K + 1 + 1 + bf nT t.facts) t.ends), bp (t.ev)]) Z Z Z Z (.rp (.d Z .nil)) (.rp (.d Z .nil)) Z (by simp [hRl]) Z (rA (ts := t.ends) (k := (K + 1 + 1 + bf nT t.facts)) h1 h2 (by omega) (by omega)).1 (fun _ => by rw [List.length_map]; exact rA (ts := t.ends) h1 h2 (by omega) (by omega)) (fun hys => ?_) Z (by simp [aK]) Z Z Z Z (by simp) ?_))))
 have hy : t.ends = [] := by simpa using hys
 rw [hy]
 exact (rO h1 h2 (k := (K + 1 + 1 + bf nT t.facts))).plain (by simp [bf, hy])
 refine aq ?_
 refine js O Z (jf [1,9,0,5] Z (jn (AWP.region (j2 O Z Z ?_))))
 first | refine dR O Z Z Z Z Z Z Z Z Z Z Z ?_ | refine aY O Z Z Z Z Z ?_
 refine js O Z (aa (bO O (ex := [.int .i64 (K), .int .i64 (K + 1), bX (aH mT nT (K + 1 + 1) t.facts), bX (aH mT nT (K + 1 + 1 + bf nT t.facts) t.ends), bp (t.ev)]) Z Z Z Z (by simp [hRl]) Z) Z Z Z (js O Z (jf [45,44,1,9,0,5] Z (cM O (l := 0) (j := 4) (z := 1) (ex := [.int .i64 (K), .int .i64 (K + 1), bX (aH mT nT (K + 1 + 1) t.facts), bX (aH mT nT (K + 1 + 1 + bf nT t.facts) t.ends), bp (t.ev)]) (ys := (t.ev).map (fun n => [D.int .i64 n])) (ys' := (aH mI bW (K + 1 + 1 + bf nT t.facts + bf nT t.ends) t.ev).map (fun n => [D.int .i64 n])) (xs' := R.set i [.int .i64 (K), .int .i64 (K + 1), bX (aH mT nT (K + 1 + 1) t.facts), bX (aH mT nT (K + 1 + 1 + bf nT t.facts) t.ends), bp (aH mI bW (K + 1 + 1 + bf nT t.facts + bf nT t.ends) t.ev)]) Z Z Z Z (.rp (.d Z .nil)) (.rp (.d Z .nil)) Z (by simp [hRl]) Z (rB (xs := t.ev) (k := (K + 1 + 1 + bf nT t.facts + bf nT t.ends)) h1 h2 (by omega) (by omega)).1 (fun _ => by rw [List.length_map]; exact rB (xs := t.ev) h1 h2 (by omega) (by omega)) (fun hys => ?_) Z (by simp [aK]) Z Z Z Z (by simp) ?_))))
 have hy : t.ev = [] := by simpa using hys
 rw [hy]
 exact (qo h1 h2 (k := (K + 1 + 1 + bf nT t.facts + bf nT t.ends))).plain (by simp [bf, hy])
 refine aq ?_
 refine js O Z (jf [1,9,0,5] Z (jn (AWP.region (js O Z ?_))))
 first | refine ji O Z ?_ | refine aY O Z Z Z Z Z ?_
 refine js O Z (jf [5,1,9,0] Z (jn ?_))
 refine ⟨i + 1, Ent.to ⟨Z, ?_, Z, trivial⟩ (by rw [ax, ← hRn]), by omega, by omega⟩
 rw [hcs]
 exact congrArg (fun z => some (eI z)) (by omega)
 try simp only [bg] at hc9
 refine AWP.exit (ag (j2 O Z Z (jn (AWP.ret ?_))))
 refine ⟨.inl Z, _, Ent.refl, _, Z, ?_⟩
 obtain rfl : i = ts.length := by omega
 rw [ko (Nat.le_refl _), List.take_length]
 exact ⟨Z, Z⟩
theorem jJ {ts : List Sq} {k : Int} (hk0 : 0 ≤ k) (hk1 : k + bf nQ ts ≤ 1073741824) : MQ h1 h2 22 [.c (.d (e6 (aH mQ nQ k ts))), eI k] [] (Plain (eI (k + bf nQ ts))) := by
 refine av ?_ Z
 refine jB 42 h1 h2 Tryz.func22 Z Z Z fun O hF => ?_
 have hlm := aK (f := mQ) (sz := nQ) (k := k) (l := ts)
 have hl : (aH mQ nQ k ts).length ≤ L := by simpa [As.fact, A.fact, M.fact, D.fact, Ds.fact] using hF.1.1
 refine ag (js O Z (jn (AWP.seq (ag (js O Z (jn (AWP.block (az (X := Nat) (fun i => ⟨[(0, .c (.d (e6 (aH mQ nQ k ts)))), (1, eI (k + bf nQ (ts.take i))), (5, eI i)], []⟩) (fun i => i ≤ ts.length) (fun i => ts.length - i) 0 (Ent.env ⟨Z, by simp [bL, ar, bf], Z, trivial⟩) ?_ (fun i hi => ?_)))))))))
 exact Nat.zero_le _
 refine AWP.seq (ag (j2 O Z Z ?_))
 first | refine cy O Z Z Z Z Z Z Z Z Z Z Z ?_ | refine js O Z ?_ | refine aY O Z Z Z Z Z ?_
 refine js O Z (jf [9,0,1,5] Z (jn (AWP.cond O Z Z (fun hc9 => ?_) (fun hc9 => ?_))))
 refine AWP.skip (AWP.seq (AWP.block (ag ?_)))
 have hil : i < ts.length := by have h9 := of_decide_eq_true hc9; omega
 have hg := fW (f := mQ) (sz := nQ) (k := k) hil
 have hcs := eQ (sz := nQ) hil
 have hcl := il (sz := nQ) (l := ts) (i := i + 1)
 rw [← aI hil] at hcs
 obtain ⟨t, ht⟩ : ∃ t, t = ts.getD i default := ⟨_, rfl⟩
 rw [← ht] at hg hcs
 simp only [nQ] at hcs
 obtain ⟨K, hK⟩ : ∃ K, K = k + (bf nQ (ts.take i) : Int) := ⟨_, rfl⟩
 rw [← hK] at hg ⊢
 refine j2 O Z Z (aa ((aB O Z Z Z Z Z Z Z Z (cq (by omega))).cast (v' := ptr (Sq.cells (mQ K t))) (by rw [hg])) Z Z Z (j3 O Z Z Z (jf [17,16,9,0,1,5] Z (ae O Z Z Z Z (vY (ts := t.facts) (k := K) h1 h2 (by omega) (by omega)) (ab Z) Z Z Z Z Z (B0 := 19000) Z (js O Z (jf [1,9,0,5] Z (jn (AWP.seq (ag (j2 O Z Z (jn (AWP.cond O Z Z (fun hc20 => ?_) (fun hc20 => ?_)))))))))))))
 exact absurd (of_decide_eq_true hc20) (by omega)
 refine AWP.skip (AWP.seq (ag (j2 O Z Z (aa ((aB O Z Z Z Z Z Z Z Z (cq (by omega))).cast (v' := ptr (Sq.cells (mQ K t))) (by rw [hg])) Z Z Z (j4 O Z Z Z Z (js O Z (jf [28,20,19,1,9,0,5] Z (jn (AWP.cond O Z Z (fun hc28 => ?_) (fun hc28 => ?_))))))))))
 exact absurd hc28 (by simp)
 refine AWP.skip (ag (js O Z ?_))
 first | refine ji O Z ?_ | refine aY O Z Z Z Z Z ?_
 refine js O Z (jf [1,28,20,19,9,0,5] Z (aP (j2 O Z Z (aa ((aB O Z Z Z Z Z Z Z Z (cq (by omega))).cast (v' := ptr (Sq.cells (mQ K t))) (by rw [hg])) Z Z Z (j4 O Z Z Z Z (jf [37,36,1,28,20,19,9,0,5] Z (ae O Z Z Z Z ((vZ (xs := aH mI bW ((K + bf nT t.facts + 1)) t.goal.xs) (k := (K + bf nT t.facts + 1)) h1 h2 (by omega) (by omega)).plain (congrArg eI (ir t.goal.xs ((K + bf nT t.facts + 1))))) (ab Z) Z Z Z Z Z (B0 := 39000) Z (js O Z (jf [1,28,20,19,9,0,5] Z (aP (j2 O Z Z (jn (AWP.cond O Z Z (fun hc40 => ?_) (fun hc40 => ?_))))))))))))))
 exact absurd (of_decide_eq_true hc40) (by omega)
 refine AWP.skip (AWP.region (js O Z ?_))
 first | refine ji O Z ?_ | refine aY O Z Z Z Z Z ?_
 refine js O Z (jf [5,40,39,1,28,20,19,9,0] Z (jn ?_))
 refine ⟨i + 1, Ent.env ⟨Z, ?_, Z, trivial⟩, by omega, by omega⟩
 rw [hcs]
 exact congrArg (fun z => some (eI z)) (by omega)
 refine AWP.exit (ag (j2 O Z Z (jn (AWP.ret ?_))))
 refine ⟨.inl Z, _, Ent.refl, _, Z, ?_⟩
 have h9 := of_decide_eq_false hc9
 obtain rfl : i = ts.length := by omega
 rw [List.take_length]
theorem jK {ts : List Pth} {k : Int} (hk0 : 0 ≤ k) (hk1 : k + bf dg ts ≤ 1073741824) : MQ h1 h2 15 [.c (.d (f7 (aH f8 dg k ts))), eI k] [] (Plain (eI (k + bf dg ts))) := by
 refine av ?_ Z
 refine jB 58 h1 h2 Tryz.func15 Z Z Z fun O hF => ?_
 have hlm := aK (f := f8) (sz := dg) (k := k) (l := ts)
 have hl : (aH f8 dg k ts).length ≤ L := by simpa [As.fact, A.fact, M.fact, D.fact, Ds.fact] using hF.1.1
 refine ag (js O Z (jn (AWP.seq (ag (js O Z (jn (AWP.block (az (X := Nat) (fun i => ⟨[(0, .c (.d (f7 (aH f8 dg k ts)))), (1, eI (k + bf dg (ts.take i))), (5, eI i)], []⟩) (fun i => i ≤ ts.length) (fun i => ts.length - i) 0 (Ent.env ⟨Z, by simp [bL, ar, bf], Z, trivial⟩) ?_ (fun i hi => ?_)))))))))
 exact Nat.zero_le _
 refine AWP.seq (ag (j2 O Z Z ?_))
 first | refine cy O Z Z Z Z Z Z Z Z Z Z Z ?_ | refine js O Z ?_ | refine aY O Z Z Z Z Z ?_
 refine js O Z (jf [9,0,1,5] Z (jn (AWP.cond O Z Z (fun hc9 => ?_) (fun hc9 => ?_))))
 refine AWP.skip (AWP.seq (AWP.block (AWP.seq (ag ?_))))
 have hil : i < ts.length := by have h9 := of_decide_eq_true hc9; omega
 have hg := fW (f := f8) (sz := dg) (k := k) hil
 have hcs := eQ (sz := dg) hil
 have hcl := il (sz := dg) (l := ts) (i := i + 1)
 rw [← aI hil] at hcs
 obtain ⟨t, ht⟩ : ∃ t, t = ts.getD i default := ⟨_, rfl⟩
 rw [← ht] at hg hcs
 simp only [dg] at hcs
 obtain ⟨K, hK⟩ : ∃ K, K = k + (bf dg (ts.take i) : Int) := ⟨_, rfl⟩
 rw [← hK] at hg ⊢
 refine j2 O Z Z (aa ((aB O Z Z Z Z Z Z Z Z (cq (by omega))).cast (v' := ptr (Pth.cells (f8 K t))) (by rw [hg])) Z Z Z (j4 O Z Z Z Z (jf [18,9,0,1,5] Z (jn (AWP.cond O Z Z (fun hc18 => ?_) (fun hc18 => ?_))))))
 exact absurd hc18 (by simp)
 refine AWP.skip (ag (js O Z ?_))
 first | refine ji O Z ?_ | refine aY O Z Z Z Z Z ?_
 refine js O Z (jf [1,18,9,0,5] Z (jn (AWP.seq (ag (j2 O Z Z (aa ((aB O Z Z Z Z Z Z Z Z (cq (by omega))).cast (v' := ptr (Pth.cells (f8 K t))) (by rw [hg])) Z Z Z (j4 O Z Z Z Z (jf [27,1,18,9,0,5] Z (jn (AWP.cond O Z Z (fun hc27 => ?_) (fun hc27 => ?_)))))))))))
 exact absurd hc27 (by simp)
 refine AWP.skip (ag (js O Z ?_))
 first | refine ji O Z ?_ | refine aY O Z Z Z Z Z ?_
 refine js O Z (jf [1,27,18,9,0,5] Z (aP (j2 O Z Z (aa ((aB O Z Z Z Z Z Z Z Z (cq (by omega))).cast (v' := ptr (Pth.cells (f8 K t))) (by rw [hg])) Z Z Z (j3 O Z Z Z (jf [35,34,1,27,18,9,0,5] Z (ae O Z Z Z Z (vY (ts := t.facts) (k := (K + 1 + 1)) h1 h2 (by omega) (by omega)) (ab Z) Z Z Z Z Z (B0 := 37000) Z (js O Z (jf [1,27,18,9,0,5] Z (jn (AWP.seq (ag (j2 O Z Z ?_)))))))))))))
 refine jn (AWP.cond O Z Z (fun hc38 => ?_) (fun hc38 => ?_))
 exact absurd (of_decide_eq_true hc38) (by omega)
 refine AWP.skip (ag (j2 O Z Z (aa ((aB O Z Z Z Z Z Z Z Z (cq (by omega))).cast (v' := ptr (Pth.cells (f8 K t))) (by rw [hg])) Z Z Z (j3 O Z Z Z (jf [44,43,38,37,1,27,18,9,0,5] Z (ae O Z Z Z Z (vY (ts := t.ends) (k := (K + 1 + 1 + bf nT t.facts)) h1 h2 (by omega) (by omega)) (ab Z) Z Z Z Z Z (B0 := 46000) Z (js O Z (jf [1,38,37,27,18,9,0,5] Z (jn (AWP.seq (ag (j2 O Z Z (jn ?_)))))))))))))
 refine AWP.cond O Z Z (fun hc47 => ?_) (fun hc47 => ?_)
 exact absurd (of_decide_eq_true hc47) (by omega)
 refine AWP.skip (ag (j2 O Z Z (aa ((aB O Z Z Z Z Z Z Z Z (cq (by omega))).cast (v' := ptr (Pth.cells (f8 K t))) (by rw [hg])) Z Z Z (j3 O Z Z Z (jf [53,52,47,46,1,38,37,27,18,9,0,5] Z (ae O Z Z Z Z ((vZ (xs := aH mI bW ((K + 1 + 1 + bf nT t.facts + bf nT t.ends)) t.ev) (k := (K + 1 + 1 + bf nT t.facts + bf nT t.ends)) h1 h2 (by omega) (by omega)).plain (congrArg eI (ir t.ev ((K + 1 + 1 + bf nT t.facts + bf nT t.ends))))) (ab Z) Z Z Z Z Z (B0 := 55000) Z (js O Z (jf [1,47,46,38,37,27,18,9,0,5] Z (aP (j2 O Z Z (jn (AWP.cond O Z Z (fun hc56 => ?_) (fun hc56 => ?_)))))))))))))
 exact absurd (of_decide_eq_true hc56) (by omega)
 refine AWP.skip (AWP.region (js O Z ?_))
 first | refine ji O Z ?_ | refine aY O Z Z Z Z Z ?_
 refine js O Z (jf [5,56,55,1,47,46,38,37,27,18,9,0] Z (jn ?_))
 refine ⟨i + 1, Ent.env ⟨Z, ?_, Z, trivial⟩, by omega, by omega⟩
 rw [hcs]
 exact congrArg (fun z => some (eI z)) (by omega)
 refine AWP.exit (ag (j2 O Z Z (jn (AWP.ret ?_))))
 refine ⟨.inl Z, _, Ent.refl, _, Z, ?_⟩
 have h9 := of_decide_eq_false hc9
 obtain rfl : i = ts.length := by omega
 rw [List.take_length]
theorem ef {L : Nat} (h1 : 4096 ≤ L) (h2 : L ≤ 1073741824) {p : Pm} : MC Tryz.prog L 9 [aPm p] [] (Plain (aPm p)) := (rF h1 h2).frozen (.v (.agg (.cons (.whole rfl (List.length_map _).symm) (.cons (.whole rfl (List.length_map _).symm) (.cons (.whole rfl (List.length_map _).symm) .nil)))))
theorem t9 {p : Pm} {n : Int} {r : List Pth} {m0 : Nat} (hm0 : m0 = r.length) (hcc : 1 + bf dg r ≤ (1073741824 : Int)) (cs : MQ h1 h2 8 [aPm p, eI n] [] (Plain (.tup [oY r, eB true]))) (ci : MQ h1 h2 10 [aPm p, eI n] [] (Rows (.tup [.c (.rs 0 0 m0), eB true]) [ax r])) (hz1 : 0 ≤ dE 1048576 (Al.szs Tm.size p.pre + Al.szs Sm.size p.body + Al.szs Tm.size p.post)) (hcp : 1 + bf nT p.pre + bf nS p.body + bf nT p.post ≤ (1073741824 : Int)) : MQ h1 h2 3 [aPm p, eI n] [] (Plain (eB true)) := by
 refine av ?_ Z
 refine jB 101 h1 h2 Tryz.func3 Z Z Z fun O hF => ?_
 subst hm0
 have hbig : L ≤ 9223372036854775807 := Nat.le_trans h2 (by decide)
 refine ag (jx O Z Z Z Z Z Z Z Z (aq ?_))
 refine js O Z (aP (js O Z (aP (j2 O Z Z (ae O Z Z Z Z (c8 (p := p) (left := 1048576) h1 hbig (by decide) (by decide)) (ab Z) Z Z Z Z Z (B0 := 19000) Z (js O Z (jf [5,4,2,0,1] Z (jn (AWP.seq (ag (j2 O Z Z (jn (AWP.cond O Z Z (fun hc20 => ?_) (fun hc20 => ?_))))))))))))))
 exact absurd (of_decide_eq_true hc20) (by omega)
 refine AWP.skip (ag (js O Z (jf [22,19,5,4,2,0,1] Z (ao O Z Z Z Z (ef (p := p) h1 h2) (ab Z) Z Z Z Z (B0 := 24000) Z Z (js O Z (jf [24,23,19,5,4,2,0,1] Z (ao O Z Z Z Z (cs) (ab Z) Z Z Z Z (B0 := 26000) Z Z (j4 O Z Z Z Z (js O Z (jf [7,6,19,5,4,2,0,1] Z (aP (js O Z (aU O (B0 := 30000) Z Z Z Z (rF (p := p) h1 h2) (ab Z) Z Z Z Z Z Z ?_)))))))))))))
 refine aq ?_
 refine jf [29,7,6,19,5,4,2,0,1] Z (jl O Z Z Z Z Z Z (aq ?_))
 refine jo O Z Z Z Z Z Z Z Z Z Z Z Z (aq ?_)
 refine aP (j2 O Z Z (aU O (B0 := 34000) Z Z Z Z (ci) (.cons (.agg (.cons (.whole Z (List.length_map _).symm) (.cons (.whole Z (List.length_map _).symm) (.cons (.whole Z (List.length_map _).symm) .nil)))) (.cons (.c .d) .nil)) Z Z Z Z Z Z (aq ?_)))
 refine j4 O Z Z Z Z (js O Z (jf [10,9,8,29,7,6,19,5,4,2,0,1] Z (jn (AWP.seq (ag (j2 O Z Z (ae O Z Z Z Z ((f5 (xs := r) (ys := r) h1 h2).plain (u := eB true) (by simp)) (.cons (.c (.whole Z (List.length_map _).symm)) (.cons (.c .d) .nil)) Z Z Z Z Z (B0 := 39000) Z (j2 O Z Z (jf [40,10,9,8,29,7,6,19,5,4,2,0,1] Z (ah Z Z Z Z Z (js O Z (ah Z Z Z Z Z (js O Z ?_)))))))))))))
 refine ah Z Z Z Z Z (js O Z (aa (aX O Z Z Z Z Z) Z Z Z (jf [44,10,9,8,29,7,6,19,5,4,2,0,1] Z (jn (AWP.cond O Z Z (fun hc44 => ?_) (fun hc44 => ?_))))))
 exact absurd (show false = true from hc44) (by decide)
 refine AWP.skip (AWP.seq (AWP.seq (jw [10,9,8,29,7,6,19,5,4,2,0,1] Z (f6 O [_,_,_,_,_] [pn [] 0 1, pn [] 0 0, pe [1] 0, pe [0,1,2] 1, pn [0,1,2,3] 2 2] [2,3] [_,_,_] (ai (kc O Z (V O Z)) (kc O Z (ai (bj O (B0 := 48000) Z Z Z Z (ef (p := p) h1 h2) (ab Z) Z Z Z Z Z) (ai (cb O (B0 := 49000) Z Z Z Z ((sg (s := p) (t := p) h1 h2).plain (u := eB true) (by simp)) (.cons (.agg (.cons (.whole Z (List.length_map _).symm) (.cons (.whole Z (List.length_map _).symm) (.cons (.whole Z (List.length_map _).symm) .nil)))) (.cons (.agg (aw Z)) .nil)) Z Z Z Z Z) (kc O Z trivial))))) ?_))))
 refine jw [49,10,9,8,29,7,6,19,5,4,2,0,1] Z (bZ ?_)
 refine AWP.cond O Z Z (fun hc49 => ?_) (fun hc49 => ?_)
 exact absurd (show false = true from hc49) (by decide)
 refine AWP.skip (ag (js O Z (aP (j2 O Z Z (jf [51,50,11,10,9,8,29,7,6,19,5,4,2,0,1] Z (ap O [30000,30001,30002] (bin := [df p.pre, fk p.body, df p.post]) Z Z Z Z (sf (p := p) (k := 1) h1 h2 (by decide) (by omega)) Z Z Z Z Z Z (B0 := 53000) Z Z (aq ?_)))))))
 refine js O Z (jf [11,10,9,8,29,7,6,19,5,4,2,0,1] Z (jn (AWP.seq (ag (j2 O Z Z ?_)))))
 rw [decide_eq_false (show ¬ (1 + bf nT p.pre + bf nS p.body + bf nT p.post : Int) < 0 by omega)]
 refine js O Z (jf [55,11,10,9,8,29,7,6,19,5,4,2,0,1] Z (ah Z Z Z Z Z (js O Z (ah Z Z Z Z Z (js O Z (ah Z Z Z Z Z (ae O Z Z Z Z ((f5 (xs := r) (ys := r) h1 h2).plain (u := eB true) (by simp)) (.cons (.c (.whole Z (List.length_map _).symm)) (.cons (.c .d) .nil)) Z Z Z Z Z (B0 := 59000) Z (jf [58,55,11,10,9,8,29,7,6,19,5,4,2,0,1] Z (ah Z Z Z Z Z (js O Z (aa (aX O Z Z Z Z Z) Z Z Z (js O Z (jf [61,11,10,9,8,29,7,6,19,5,4,2,0,1] Z ?_)))))))))))))
 refine ah Z Z Z Z Z (js O Z (ah Z Z Z Z Z (js O Z (ah Z Z Z Z Z (js O Z (aa (aX O Z Z Z Z Z) Z Z Z (jf [65,11,10,9,8,29,7,6,19,5,4,2,0,1] Z (jn (AWP.cond O Z Z (fun hc65 => ?_) (fun hc65 => ?_))))))))))
 exact absurd (show false = true from hc65) (by decide)
 refine AWP.skip (ag (js O Z (aP (j2 O Z Z (jf [67,66,12,11,10,9,8,29,7,6,19,5,4,2,0,1] Z (ap O [34000] (bin := [ax r]) Z Z Z Z (sL (ts := r) (k := 1) h1 h2 (by decide) (by omega)) Z Z Z Z Z Z (B0 := 69000) Z Z (aq ?_)))))))
 refine js O Z (jf [12,11,10,9,8,29,7,6,19,5,4,2,0,1] Z (aP (js O Z (aP (j2 O Z Z (ae O Z Z Z Z (jK (ts := r) (k := 1) h1 h2 (by decide) (by omega)) (.cons (.c (.whole Z (by rw [List.length_map, aK]))) (.cons (.c .d) .nil)) Z Z Z Z Z (B0 := 72000) Z (js O Z (jf [13,12,11,10,9,8,29,7,6,19,5,4,2,0,1] Z (jn (AWP.seq (ag (j2 O Z Z (jn ?_)))))))))))))
 refine AWP.cond O Z Z (fun hc73 => ?_) (fun hc73 => ?_)
 exact absurd (of_decide_eq_true hc73) (by omega)
 refine AWP.skip (AWP.seq (ag (j3 O Z Z Z (jf [76,72,13,12,11,10,9,8,29,7,6,19,5,4,2,0,1] Z (jn (AWP.cond O Z Z (fun hc76 => ?_) (fun hc76 => ?_)))))))
 exact absurd hc76 (by simp)
 refine AWP.skip (ag (js O Z (jf [78,72,13,12,11,10,9,8,29,7,6,19,5,4,2,0,1] Z (ao O Z Z Z Z (ef (p := p) h1 h2) (ab Z) Z Z Z Z (B0 := 80000) Z Z (js O Z (jf [80,79,72,13,12,11,10,9,8,29,7,6,19,5,4,2,0,1] Z (aU O (B0 := 82000) Z Z Z Z (ci) (ab Z) Z Z Z Z Z Z (aq ?_))))))))
 refine j4 O Z Z Z Z (js O Z (jf [15,14,72,13,12,11,10,9,8,29,7,6,19,5,4,2,0,1] Z (jn (AWP.seq (ag (j2 O Z Z (jf [85,84,15,72,13,12,11,10,9,8,29,7,6,19,5,4,2,0,1] Z (ae O Z Z Z Z ((f5 (xs := r) (ys := r) h1 h2).plain (u := eB true) (by simp)) (.cons (.c (.whole Z (List.length_map _).symm)) (.cons (.c .d) .nil)) Z Z Z Z Z (B0 := 87000) Z (j2 O Z Z (jf [88,15,72,13,12,11,10,9,8,29,7,6,19,5,4,2,0,1] Z (ah Z Z Z Z Z (js O Z (jf [89,88,72,13,12,11,10,9,8,29,7,6,19,5,4,2,0,1] Z ?_)))))))))))))
 refine ah Z Z Z Z Z (js O Z (ah Z Z Z Z Z (js O Z (aa (aX O Z Z Z Z Z) Z Z Z (jf [92,72,13,12,11,10,9,8,29,7,6,19,5,4,2,0,1] Z (jn (AWP.cond O Z Z (fun hc92 => ?_) (fun hc92 => ?_))))))))
 exact absurd (show false = true from hc92) (by decide)
 refine AWP.skip (ag (js O Z (aP (j2 O Z Z (jf [94,93,13,72,12,11,10,9,8,29,7,6,19,5,4,2,0,1] Z (ae O Z Z Z Z (jK (ts := r) (k := 1) h1 h2 (by decide) (by omega)) (.cons (.c (.whole Z (by rw [List.length_map, aK]))) (.cons (.c .d) .nil)) Z Z Z Z Z (B0 := 96000) Z (js O Z (jf [13,72,12,11,10,9,8,29,7,6,19,5,4,2,0,1] Z (jn (AWP.seq (ag (j2 O Z Z (jn ?_)))))))))))))
 refine AWP.cond O Z Z (fun hc97 => ?_) (fun hc97 => ?_)
 exact absurd (of_decide_eq_true hc97) (by omega)
 refine AWP.skip (AWP.seq (ag (j3 O Z Z Z (jf [100,96,13,72,12,11,10,9,8,29,7,6,19,5,4,2,0,1] Z (jn (AWP.cond O Z Z (fun hc100 => ?_) (fun hc100 => ?_)))))))
 exact absurd hc100 (by simp)
 refine AWP.skip (ag (js O Z (jn (AWP.ret ?_))))
 refine ⟨.inl Z, _, Ent.refl, _, Z, ?_⟩
 rfl
theorem nO {p : Pm} {n : Int} (cs : MQ h1 h2 8 [aPm p, eI n] [] (Plain (.tup [oY ([] : List Pth), eB false]))) (ci : MQ h1 h2 10 [aPm p, eI n] [] (Rows (.tup [.c (.d .nils), eB false]) [])) (hz1 : 0 ≤ dE 1048576 (Al.szs Tm.size p.pre + Al.szs Sm.size p.body + Al.szs Tm.size p.post)) (hcp : 1 + bf nT p.pre + bf nS p.body + bf nT p.post ≤ (1073741824 : Int)) : MQ h1 h2 3 [aPm p, eI n] [] (Plain (eB true)) := by
 refine av ?_ Z
 refine jB 101 h1 h2 Tryz.func3 Z Z Z fun O hF => ?_
 have hbig : L ≤ 9223372036854775807 := Nat.le_trans h2 (by decide)
 refine ag (jx O Z Z Z Z Z Z Z Z (aq ?_))
 refine js O Z (aP (js O Z (aP (j2 O Z Z (ae O Z Z Z Z (c8 (p := p) (left := 1048576) h1 hbig (by decide) (by decide)) (ab Z) Z Z Z Z Z (B0 := 19000) Z (js O Z (jf [5,4,2,0,1] Z (jn (AWP.seq (ag (j2 O Z Z (jn (AWP.cond O Z Z (fun hc20 => ?_) (fun hc20 => ?_))))))))))))))
 exact absurd (of_decide_eq_true hc20) (by omega)
 refine AWP.skip (ag (js O Z (jf [22,19,5,4,2,0,1] Z (ao O Z Z Z Z (ef (p := p) h1 h2) (ab Z) Z Z Z Z (B0 := 24000) Z Z (js O Z (jf [24,23,19,5,4,2,0,1] Z (ao O Z Z Z Z (cs) (ab Z) Z Z Z Z (B0 := 26000) Z Z (j4 O Z Z Z Z (js O Z (jf [7,6,19,5,4,2,0,1] Z (aP (js O Z (aU O (B0 := 30000) Z Z Z Z (rF (p := p) h1 h2) (ab Z) Z Z Z Z Z Z ?_)))))))))))))
 refine aq ?_
 refine jf [29,7,6,19,5,4,2,0,1] Z (jl O Z Z Z Z Z Z (aq ?_))
 refine jo O Z Z Z Z Z Z Z Z Z Z Z Z (aq ?_)
 refine aP (j2 O Z Z (aU O (B0 := 34000) Z Z Z Z (ci) (.cons (.agg (.cons (.whole Z (List.length_map _).symm) (.cons (.whole Z (List.length_map _).symm) (.cons (.whole Z (List.length_map _).symm) .nil)))) (.cons (.c .d) .nil)) Z Z Z Z Z Z (aq ?_)))
 refine j4 O Z Z Z Z (js O Z (jf [10,9,8,29,7,6,19,5,4,2,0,1] Z (jn (AWP.seq (ag (j2 O Z Z (ae O Z Z Z Z ((f5 (xs := ([] : List Pth)) (ys := ([] : List Pth)) h1 h2).plain (u := eB true) (by simp)) (.cons (.c .nils) (.cons (.c .d) .nil)) Z Z Z Z Z (B0 := 39000) Z (j2 O Z Z (jf [40,10,9,8,29,7,6,19,5,4,2,0,1] Z (ah Z Z Z Z Z (js O Z (ah Z Z Z Z Z (js O Z ?_)))))))))))))
 refine ah Z Z Z Z Z (js O Z (aa (aX O Z Z Z Z Z) Z Z Z (jf [44,10,9,8,29,7,6,19,5,4,2,0,1] Z (jn (AWP.cond O Z Z (fun hc44 => ?_) (fun hc44 => ?_))))))
 exact absurd (show false = true from hc44) (by decide)
 refine AWP.skip (AWP.seq (AWP.seq (jw [10,9,8,29,7,6,19,5,4,2,0,1] Z (f6 O [_,_,_,_,_] [pn [] 0 1, pn [] 0 0, pe [1] 0, pe [0,1,2] 1, pn [0,1,2,3] 2 2] [2,3] [_,_,_] (ai (kc O Z (V O Z)) (kc O Z (ai (bj O (B0 := 48000) Z Z Z Z (ef (p := p) h1 h2) (ab Z) Z Z Z Z Z) (ai (cb O (B0 := 49000) Z Z Z Z ((sg (s := p) (t := p) h1 h2).plain (u := eB true) (by simp)) (.cons (.agg (.cons (.whole Z (List.length_map _).symm) (.cons (.whole Z (List.length_map _).symm) (.cons (.whole Z (List.length_map _).symm) .nil)))) (.cons (.agg (aw Z)) .nil)) Z Z Z Z Z) (kc O Z trivial))))) ?_))))
 refine jw [49,10,9,8,29,7,6,19,5,4,2,0,1] Z (bZ ?_)
 refine AWP.cond O Z Z (fun hc49 => ?_) (fun hc49 => ?_)
 exact absurd (show false = true from hc49) (by decide)
 refine AWP.skip (ag (js O Z (aP (j2 O Z Z (jf [51,50,11,10,9,8,29,7,6,19,5,4,2,0,1] Z (ap O [30000,30001,30002] (bin := [df p.pre, fk p.body, df p.post]) Z Z Z Z (sf (p := p) (k := 1) h1 h2 (by decide) (by omega)) Z Z Z Z Z Z (B0 := 53000) Z Z (aq ?_)))))))
 refine js O Z (jf [11,10,9,8,29,7,6,19,5,4,2,0,1] Z (jn (AWP.seq (ag (j2 O Z Z ?_)))))
 rw [decide_eq_false (show ¬ (1 + bf nT p.pre + bf nS p.body + bf nT p.post : Int) < 0 by omega)]
 refine js O Z (jf [55,11,10,9,8,29,7,6,19,5,4,2,0,1] Z (ah Z Z Z Z Z (js O Z (ah Z Z Z Z Z (js O Z (ah Z Z Z Z Z (ae O Z Z Z Z ((f5 (xs := ([] : List Pth)) (ys := ([] : List Pth)) h1 h2).plain (u := eB true) (by simp)) (.cons (.c .nils) (.cons (.c .d) .nil)) Z Z Z Z Z (B0 := 59000) Z (jf [58,55,11,10,9,8,29,7,6,19,5,4,2,0,1] Z (ah Z Z Z Z Z (js O Z (aa (aX O Z Z Z Z Z) Z Z Z (js O Z (jf [61,11,10,9,8,29,7,6,19,5,4,2,0,1] Z ?_)))))))))))))
 refine ah Z Z Z Z Z (js O Z (ah Z Z Z Z Z (js O Z (ah Z Z Z Z Z (js O Z (aa (aX O Z Z Z Z Z) Z Z Z (jf [65,11,10,9,8,29,7,6,19,5,4,2,0,1] Z (jn (AWP.cond O Z Z (fun hc65 => ?_) (fun hc65 => ?_))))))))))
 exact absurd (show false = true from hc65) (by decide)
 refine AWP.skip (ag (js O Z (aP (j2 O Z Z (jf [67,66,12,11,10,9,8,29,7,6,19,5,4,2,0,1] Z (ae O Z Z Z Z (qS (k := 1) h1 h2) (.cons (.c .nils) (.cons (.c .d) .nil)) Z Z Z Z Z (B0 := 69000) Z (js O Z (jf [12,11,10,9,8,29,7,6,19,5,4,2,0,1] Z (aP (js O Z (aP (j2 O Z Z (ae O Z Z Z Z ((jK (ts := ([] : List Pth)) (k := 1) h1 h2 (by decide) (by decide)).plain (u := eI 1) Z) (.cons (.c .nils) (.cons (.c .d) .nil)) Z Z Z Z Z (B0 := 72000) Z ?_)))))))))))))
 refine js O Z (jf [13,12,11,10,9,8,29,7,6,19,5,4,2,0,1] Z (jn (AWP.seq (ag (j2 O Z Z (jn (AWP.cond O Z Z (fun hc73 => ?_) (fun hc73 => ?_))))))))
 exact absurd (of_decide_eq_true hc73) (by decide)
 refine AWP.skip (AWP.seq (ag (j3 O Z Z Z (jf [76,72,13,12,11,10,9,8,29,7,6,19,5,4,2,0,1] Z (jn (AWP.cond O Z Z (fun hc76 => ?_) (fun hc76 => ?_)))))))
 exact absurd hc76 (by simp)
 refine AWP.skip (ag (js O Z (jf [78,72,13,12,11,10,9,8,29,7,6,19,5,4,2,0,1] Z (ao O Z Z Z Z (ef (p := p) h1 h2) (ab Z) Z Z Z Z (B0 := 80000) Z Z (js O Z (jf [80,79,72,13,12,11,10,9,8,29,7,6,19,5,4,2,0,1] Z (aU O (B0 := 82000) Z Z Z Z (ci) (ab Z) Z Z Z Z Z Z (aq ?_))))))))
 refine j4 O Z Z Z Z (js O Z (jf [15,14,72,13,12,11,10,9,8,29,7,6,19,5,4,2,0,1] Z (jn (AWP.seq (ag (j2 O Z Z (jf [85,84,15,72,13,12,11,10,9,8,29,7,6,19,5,4,2,0,1] Z (ae O Z Z Z Z ((f5 (xs := ([] : List Pth)) (ys := ([] : List Pth)) h1 h2).plain (u := eB true) (by simp)) (.cons (.c .nils) (.cons (.c .d) .nil)) Z Z Z Z Z (B0 := 87000) Z (j2 O Z Z (jf [88,15,72,13,12,11,10,9,8,29,7,6,19,5,4,2,0,1] Z (ah Z Z Z Z Z (js O Z (jf [89,88,72,13,12,11,10,9,8,29,7,6,19,5,4,2,0,1] Z ?_)))))))))))))
 refine ah Z Z Z Z Z (js O Z (ah Z Z Z Z Z (js O Z (aa (aX O Z Z Z Z Z) Z Z Z (jf [92,72,13,12,11,10,9,8,29,7,6,19,5,4,2,0,1] Z (jn (AWP.cond O Z Z (fun hc92 => ?_) (fun hc92 => ?_))))))))
 exact absurd (show false = true from hc92) (by decide)
 refine AWP.skip (ag (js O Z (aP (j2 O Z Z (jf [94,93,13,72,12,11,10,9,8,29,7,6,19,5,4,2,0,1] Z (ae O Z Z Z Z ((jK (ts := ([] : List Pth)) (k := 1) h1 h2 (by decide) (by decide)).plain (u := eI 1) Z) (.cons (.c .nils) (.cons (.c .d) .nil)) Z Z Z Z Z (B0 := 96000) Z (js O Z (jf [13,72,12,11,10,9,8,29,7,6,19,5,4,2,0,1] Z (jn (AWP.seq (ag (j2 O Z Z (jn ?_)))))))))))))
 refine AWP.cond O Z Z (fun hc97 => ?_) (fun hc97 => ?_)
 exact absurd (of_decide_eq_true hc97) (by decide)
 refine AWP.skip (AWP.seq (ag (j3 O Z Z Z (jf [100,96,13,72,12,11,10,9,8,29,7,6,19,5,4,2,0,1] Z (jn (AWP.cond O Z Z (fun hc100 => ?_) (fun hc100 => ?_)))))))
 exact absurd hc100 (by simp)
 refine AWP.skip (ag (js O Z (jn (AWP.ret ?_))))
 refine ⟨.inl Z, _, Ent.refl, _, Z, ?_⟩
 rfl
theorem ua {L : Nat} (h1 : 4096 ≤ L) (h2 : L ≤ 9223372036854775807) {p : Pm} {n : Int} (hz : dE 1048576 (Al.szs Tm.size p.pre + Al.szs Sm.size p.body + Al.szs Tm.size p.post) < 0) : MC Tryz.prog L 3 [aPm p, eI n] [] (Plain (eB true)) := by
 refine av ?_ Z
 have O := j6 (nt := 101) h1 h2
 refine MC.body O Tryz.func3 (by kernel_rfl) Z Z (Nat.le_of_ble_eq_true Z) (fun hF => ?_)
 refine ag (jx O Z Z Z Z Z Z Z Z (aq ?_))
 refine js O Z (aP (js O Z (aP (j2 O Z Z (ae O Z Z Z Z (c8 (p := p) (left := 1048576) h1 h2 (by decide) (by decide)) (ab Z) Z Z Z Z Z (B0 := 19000) Z (js O Z (jf [5,4,2,0,1] Z (jn (AWP.seq (ag (j2 O Z Z (jn (AWP.cond O Z Z (fun hc20 => ?_) (fun hc20 => ?_))))))))))))))
 refine ag (js O Z (jn (AWP.ret ?_)))
 refine ⟨.inl Z, _, Ent.refl, _, Z, ?_⟩
 rfl
 exact absurd (of_decide_eq_false hc20) (fun h => h hz)
theorem t7 {p : Pm} {r : List Pth} {m0 : Nat} (hm0 : m0 = r.length) (hcc : 1 + bf dg r ≤ (1073741824 : Int)) (cs : MQ h1 h2 16 [aPm p] [] (Plain (.tup [oY r, eB true]))) (ci : MQ h1 h2 17 [aPm p] [] (Rows (.tup [.c (.rs 0 0 m0), eB true]) [ax r])) (hz1 : 0 ≤ dE 1048576 (Al.szs Tm.size p.pre + Al.szs Sm.size p.body + Al.szs Tm.size p.post)) (hcp : 1 + bf nT p.pre + bf nS p.body + bf nT p.post ≤ (1073741824 : Int)) : MQ h1 h2 4 [aPm p] [] (Plain (eB true)) := by
 refine av ?_ Z
 refine jB 96 h1 h2 Tryz.func4 Z Z Z fun O hF => ?_
 subst hm0
 have hbig : L ≤ 9223372036854775807 := Nat.le_trans h2 (by decide)
 refine ag (jx O Z Z Z Z Z Z Z Z (aq ?_))
 refine js O Z (aP (js O Z (aP (j2 O Z Z (ae O Z Z Z Z (c8 (p := p) (left := 1048576) h1 hbig (by decide) (by decide)) (ab Z) Z Z Z Z Z (B0 := 17000) Z (js O Z (jf [3,2,1,0] Z (jn (AWP.seq (ag (j2 O Z Z (jn (AWP.cond O Z Z (fun hc18 => ?_) (fun hc18 => ?_))))))))))))))
 exact absurd (of_decide_eq_true hc18) (by omega)
 refine AWP.skip (ag (js O Z (jf [20,17,3,2,1,0] Z (ao O Z Z Z Z (ef (p := p) h1 h2) (ab Z) Z Z Z Z (B0 := 22000) Z Z (jf [21,17,3,2,1,0] Z (ao O Z Z Z Z (cs) (ab Z) Z Z Z Z (B0 := 23000) Z Z (j4 O Z Z Z Z (js O Z (jf [5,4,17,3,2,1,0] Z (aP (js O Z (aU O (B0 := 27000) Z Z Z Z (rF (p := p) h1 h2) (ab Z) Z Z Z Z Z Z (aq ?_)))))))))))))
 refine jf [26,5,4,17,3,2,1,0] Z (jl O Z Z Z Z Z Z (aq ?_))
 refine jo O Z Z Z Z Z Z Z Z Z Z Z Z (aq ?_)
 refine aP (js O Z (aU O (B0 := 30000) Z Z Z Z (ci) (.cons (.agg (.cons (.whole Z (List.length_map _).symm) (.cons (.whole Z (List.length_map _).symm) (.cons (.whole Z (List.length_map _).symm) .nil)))) .nil) Z Z Z Z Z Z (aq ?_)))
 refine j4 O Z Z Z Z (js O Z (jf [8,7,6,26,5,4,17,3,2,1,0] Z (jn (AWP.seq (ag (j2 O Z Z (ae O Z Z Z Z ((f5 (xs := r) (ys := r) h1 h2).plain (u := eB true) (by simp)) (.cons (.c (.whole Z (List.length_map _).symm)) (.cons (.c .d) .nil)) Z Z Z Z Z (B0 := 35000) Z (j2 O Z Z (jf [36,8,7,6,26,5,4,17,3,2,1,0] Z (ah Z Z Z Z Z (js O Z (ah Z Z Z Z Z (js O Z ?_)))))))))))))
 refine ah Z Z Z Z Z (js O Z (aa (aX O Z Z Z Z Z) Z Z Z (jf [40,8,7,6,26,5,4,17,3,2,1,0] Z (jn (AWP.cond O Z Z (fun hc40 => ?_) (fun hc40 => ?_))))))
 exact absurd (show false = true from hc40) (by decide)
 refine AWP.skip (AWP.seq (AWP.seq (jw [8,7,6,26,5,4,17,3,2,1,0] Z (f6 O [_,_,_,_,_] [pn [] 0 1, pn [] 0 0, pe [1] 0, pe [0,1,2] 1, pn [0,1,2,3] 2 2] [2,3] [_,_,_] (ai (kc O Z (V O Z)) (kc O Z (ai (bj O (B0 := 44000) Z Z Z Z (ef (p := p) h1 h2) (ab Z) Z Z Z Z Z) (ai (cb O (B0 := 45000) Z Z Z Z ((sg (s := p) (t := p) h1 h2).plain (u := eB true) (by simp)) (.cons (.agg (.cons (.whole Z (List.length_map _).symm) (.cons (.whole Z (List.length_map _).symm) (.cons (.whole Z (List.length_map _).symm) .nil)))) (.cons (.agg (aw Z)) .nil)) Z Z Z Z Z) (kc O Z trivial))))) ?_))))
 refine jw [45,8,7,6,26,5,4,17,3,2,1,0] Z (bZ ?_)
 refine AWP.cond O Z Z (fun hc45 => ?_) (fun hc45 => ?_)
 exact absurd (show false = true from hc45) (by decide)
 refine AWP.skip (ag (js O Z (aP (j2 O Z Z (jf [47,46,9,8,7,6,26,5,4,17,3,2,1,0] Z (ap O [27000,27001,27002] (bin := [df p.pre, fk p.body, df p.post]) Z Z Z Z (sf (p := p) (k := 1) h1 h2 (by decide) (by omega)) Z Z Z Z Z Z (B0 := 49000) Z Z (aq ?_)))))))
 refine js O Z (jf [9,8,7,6,26,5,4,17,3,2,1,0] Z (jn (AWP.seq (ag (j2 O Z Z ?_)))))
 rw [decide_eq_false (show ¬ (1 + bf nT p.pre + bf nS p.body + bf nT p.post : Int) < 0 by omega)]
 refine js O Z (jf [51,9,8,7,6,26,5,4,17,3,2,1,0] Z (ah Z Z Z Z Z (js O Z (ah Z Z Z Z Z (js O Z (ah Z Z Z Z Z (ae O Z Z Z Z ((f5 (xs := r) (ys := r) h1 h2).plain (u := eB true) (by simp)) (.cons (.c (.whole Z (List.length_map _).symm)) (.cons (.c .d) .nil)) Z Z Z Z Z (B0 := 55000) Z (jf [54,51,9,8,7,6,26,5,4,17,3,2,1,0] Z (ah Z Z Z Z Z (js O Z (aa (aX O Z Z Z Z Z) Z Z Z (js O Z (jf [57,9,8,7,6,26,5,4,17,3,2,1,0] Z ?_)))))))))))))
 refine ah Z Z Z Z Z (js O Z (ah Z Z Z Z Z (js O Z (ah Z Z Z Z Z (js O Z (aa (aX O Z Z Z Z Z) Z Z Z (jf [61,9,8,7,6,26,5,4,17,3,2,1,0] Z (jn (AWP.cond O Z Z (fun hc61 => ?_) (fun hc61 => ?_))))))))))
 exact absurd (show false = true from hc61) (by decide)
 refine AWP.skip (ag (js O Z (aP (j2 O Z Z (jf [63,62,10,9,8,7,6,26,5,4,17,3,2,1,0] Z (ap O [30000] (bin := [ax r]) Z Z Z Z (sL (ts := r) (k := 1) h1 h2 (by decide) (by omega)) Z Z Z Z Z Z (B0 := 65000) Z Z (aq ?_)))))))
 refine js O Z (jf [10,9,8,7,6,26,5,4,17,3,2,1,0] Z (aP (js O Z (aP (j2 O Z Z (ae O Z Z Z Z (jK (ts := r) (k := 1) h1 h2 (by decide) (by omega)) (.cons (.c (.whole Z (by rw [List.length_map, aK]))) (.cons (.c .d) .nil)) Z Z Z Z Z (B0 := 68000) Z (js O Z (jf [11,10,9,8,7,6,26,5,4,17,3,2,1,0] Z (jn (AWP.seq (ag (j2 O Z Z (jn ?_)))))))))))))
 refine AWP.cond O Z Z (fun hc69 => ?_) (fun hc69 => ?_)
 exact absurd (of_decide_eq_true hc69) (by omega)
 refine AWP.skip (AWP.seq (ag (j3 O Z Z Z (jf [72,68,11,10,9,8,7,6,26,5,4,17,3,2,1,0] Z (jn (AWP.cond O Z Z (fun hc72 => ?_) (fun hc72 => ?_)))))))
 exact absurd hc72 (by simp)
 refine AWP.skip (ag (js O Z (jf [74,68,11,10,9,8,7,6,26,5,4,17,3,2,1,0] Z (ao O Z Z Z Z (ef (p := p) h1 h2) (ab Z) Z Z Z Z (B0 := 76000) Z Z (jf [75,68,11,10,9,8,7,6,26,5,4,17,3,2,1,0] Z (aU O (B0 := 77000) Z Z Z Z (ci) (ab Z) Z Z Z Z Z Z (aq ?_)))))))
 refine j4 O Z Z Z Z (js O Z (jf [13,12,68,11,10,9,8,7,6,26,5,4,17,3,2,1,0] Z (jn (AWP.seq (ag (j2 O Z Z (jf [80,79,13,68,11,10,9,8,7,6,26,5,4,17,3,2,1,0] Z (ae O Z Z Z Z ((f5 (xs := r) (ys := r) h1 h2).plain (u := eB true) (by simp)) (.cons (.c (.whole Z (List.length_map _).symm)) (.cons (.c .d) .nil)) Z Z Z Z Z (B0 := 82000) Z (j2 O Z Z (jf [83,13,68,11,10,9,8,7,6,26,5,4,17,3,2,1,0] Z (ah Z Z Z Z Z (js O Z (jf [84,83,68,11,10,9,8,7,6,26,5,4,17,3,2,1,0] Z ?_)))))))))))))
 refine ah Z Z Z Z Z (js O Z (ah Z Z Z Z Z (js O Z (aa (aX O Z Z Z Z Z) Z Z Z (jf [87,68,11,10,9,8,7,6,26,5,4,17,3,2,1,0] Z (jn (AWP.cond O Z Z (fun hc87 => ?_) (fun hc87 => ?_))))))))
 exact absurd (show false = true from hc87) (by decide)
 refine AWP.skip (ag (js O Z (aP (j2 O Z Z (jf [89,88,11,68,10,9,8,7,6,26,5,4,17,3,2,1,0] Z (ae O Z Z Z Z (jK (ts := r) (k := 1) h1 h2 (by decide) (by omega)) (.cons (.c (.whole Z (by rw [List.length_map, aK]))) (.cons (.c .d) .nil)) Z Z Z Z Z (B0 := 91000) Z (js O Z (jf [11,68,10,9,8,7,6,26,5,4,17,3,2,1,0] Z (jn (AWP.seq (ag (j2 O Z Z (jn ?_)))))))))))))
 refine AWP.cond O Z Z (fun hc92 => ?_) (fun hc92 => ?_)
 exact absurd (of_decide_eq_true hc92) (by omega)
 refine AWP.skip (AWP.seq (ag (j3 O Z Z Z (jf [95,91,11,68,10,9,8,7,6,26,5,4,17,3,2,1,0] Z (jn (AWP.cond O Z Z (fun hc95 => ?_) (fun hc95 => ?_)))))))
 exact absurd hc95 (by simp)
 refine AWP.skip (ag (js O Z (jn (AWP.ret ?_))))
 refine ⟨.inl Z, _, Ent.refl, _, Z, ?_⟩
 rfl
theorem qT {p : Pm} (cs : MQ h1 h2 16 [aPm p] [] (Plain (.tup [oY ([] : List Pth), eB false]))) (ci : MQ h1 h2 17 [aPm p] [] (Rows (.tup [.c (.d .nils), eB false]) [])) (hz1 : 0 ≤ dE 1048576 (Al.szs Tm.size p.pre + Al.szs Sm.size p.body + Al.szs Tm.size p.post)) (hcp : 1 + bf nT p.pre + bf nS p.body + bf nT p.post ≤ (1073741824 : Int)) : MQ h1 h2 4 [aPm p] [] (Plain (eB true)) := by
 refine av ?_ Z
 refine jB 96 h1 h2 Tryz.func4 Z Z Z fun O hF => ?_
 have hbig : L ≤ 9223372036854775807 := Nat.le_trans h2 (by decide)
 refine ag (jx O Z Z Z Z Z Z Z Z (aq ?_))
 refine js O Z (aP (js O Z (aP (j2 O Z Z (ae O Z Z Z Z (c8 (p := p) (left := 1048576) h1 hbig (by decide) (by decide)) (ab Z) Z Z Z Z Z (B0 := 17000) Z (js O Z (jf [3,2,1,0] Z (jn (AWP.seq (ag (j2 O Z Z (jn (AWP.cond O Z Z (fun hc18 => ?_) (fun hc18 => ?_))))))))))))))
 exact absurd (of_decide_eq_true hc18) (by omega)
 refine AWP.skip (ag (js O Z (jf [20,17,3,2,1,0] Z (ao O Z Z Z Z (ef (p := p) h1 h2) (ab Z) Z Z Z Z (B0 := 22000) Z Z (jf [21,17,3,2,1,0] Z (ao O Z Z Z Z (cs) (ab Z) Z Z Z Z (B0 := 23000) Z Z (j4 O Z Z Z Z (js O Z (jf [5,4,17,3,2,1,0] Z (aP (js O Z (aU O (B0 := 27000) Z Z Z Z (rF (p := p) h1 h2) (ab Z) Z Z Z Z Z Z (aq ?_)))))))))))))
 refine jf [26,5,4,17,3,2,1,0] Z (jl O Z Z Z Z Z Z (aq ?_))
 refine jo O Z Z Z Z Z Z Z Z Z Z Z Z (aq ?_)
 refine aP (js O Z (aU O (B0 := 30000) Z Z Z Z (ci) (.cons (.agg (.cons (.whole Z (List.length_map _).symm) (.cons (.whole Z (List.length_map _).symm) (.cons (.whole Z (List.length_map _).symm) .nil)))) .nil) Z Z Z Z Z Z (aq ?_)))
 refine j4 O Z Z Z Z (js O Z (jf [8,7,6,26,5,4,17,3,2,1,0] Z (jn (AWP.seq (ag (j2 O Z Z (ae O Z Z Z Z ((f5 (xs := ([] : List Pth)) (ys := ([] : List Pth)) h1 h2).plain (u := eB true) (by simp)) (.cons (.c .nils) (.cons (.c .d) .nil)) Z Z Z Z Z (B0 := 35000) Z (j2 O Z Z (jf [36,8,7,6,26,5,4,17,3,2,1,0] Z (ah Z Z Z Z Z (js O Z (ah Z Z Z Z Z (js O Z ?_)))))))))))))
 refine ah Z Z Z Z Z (js O Z (aa (aX O Z Z Z Z Z) Z Z Z (jf [40,8,7,6,26,5,4,17,3,2,1,0] Z (jn (AWP.cond O Z Z (fun hc40 => ?_) (fun hc40 => ?_))))))
 exact absurd (show false = true from hc40) (by decide)
 refine AWP.skip (AWP.seq (AWP.seq (jw [8,7,6,26,5,4,17,3,2,1,0] Z (f6 O [_,_,_,_,_] [pn [] 0 1, pn [] 0 0, pe [1] 0, pe [0,1,2] 1, pn [0,1,2,3] 2 2] [2,3] [_,_,_] (ai (kc O Z (V O Z)) (kc O Z (ai (bj O (B0 := 44000) Z Z Z Z (ef (p := p) h1 h2) (ab Z) Z Z Z Z Z) (ai (cb O (B0 := 45000) Z Z Z Z ((sg (s := p) (t := p) h1 h2).plain (u := eB true) (by simp)) (.cons (.agg (.cons (.whole Z (List.length_map _).symm) (.cons (.whole Z (List.length_map _).symm) (.cons (.whole Z (List.length_map _).symm) .nil)))) (.cons (.agg (aw Z)) .nil)) Z Z Z Z Z) (kc O Z trivial))))) ?_))))
 refine jw [45,8,7,6,26,5,4,17,3,2,1,0] Z (bZ ?_)
 refine AWP.cond O Z Z (fun hc45 => ?_) (fun hc45 => ?_)
 exact absurd (show false = true from hc45) (by decide)
 refine AWP.skip (ag (js O Z (aP (j2 O Z Z (jf [47,46,9,8,7,6,26,5,4,17,3,2,1,0] Z (ap O [27000,27001,27002] (bin := [df p.pre, fk p.body, df p.post]) Z Z Z Z (sf (p := p) (k := 1) h1 h2 (by decide) (by omega)) Z Z Z Z Z Z (B0 := 49000) Z Z (aq ?_)))))))
 refine js O Z (jf [9,8,7,6,26,5,4,17,3,2,1,0] Z (jn (AWP.seq (ag (j2 O Z Z ?_)))))
 rw [decide_eq_false (show ¬ (1 + bf nT p.pre + bf nS p.body + bf nT p.post : Int) < 0 by omega)]
 refine js O Z (jf [51,9,8,7,6,26,5,4,17,3,2,1,0] Z (ah Z Z Z Z Z (js O Z (ah Z Z Z Z Z (js O Z (ah Z Z Z Z Z (ae O Z Z Z Z ((f5 (xs := ([] : List Pth)) (ys := ([] : List Pth)) h1 h2).plain (u := eB true) (by simp)) (.cons (.c .nils) (.cons (.c .d) .nil)) Z Z Z Z Z (B0 := 55000) Z (jf [54,51,9,8,7,6,26,5,4,17,3,2,1,0] Z (ah Z Z Z Z Z (js O Z (aa (aX O Z Z Z Z Z) Z Z Z (js O Z (jf [57,9,8,7,6,26,5,4,17,3,2,1,0] Z ?_)))))))))))))
 refine ah Z Z Z Z Z (js O Z (ah Z Z Z Z Z (js O Z (ah Z Z Z Z Z (js O Z (aa (aX O Z Z Z Z Z) Z Z Z (jf [61,9,8,7,6,26,5,4,17,3,2,1,0] Z (jn (AWP.cond O Z Z (fun hc61 => ?_) (fun hc61 => ?_))))))))))
 exact absurd (show false = true from hc61) (by decide)
 refine AWP.skip (ag (js O Z (aP (j2 O Z Z (jf [63,62,10,9,8,7,6,26,5,4,17,3,2,1,0] Z (ae O Z Z Z Z (qS (k := 1) h1 h2) (.cons (.c .nils) (.cons (.c .d) .nil)) Z Z Z Z Z (B0 := 65000) Z (js O Z (jf [10,9,8,7,6,26,5,4,17,3,2,1,0] Z (aP (js O Z (aP (j2 O Z Z (ae O Z Z Z Z ((jK (ts := ([] : List Pth)) (k := 1) h1 h2 (by decide) (by decide)).plain (u := eI 1) Z) (.cons (.c .nils) (.cons (.c .d) .nil)) Z Z Z Z Z (B0 := 68000) Z ?_)))))))))))))
 refine js O Z (jf [11,10,9,8,7,6,26,5,4,17,3,2,1,0] Z (jn (AWP.seq (ag (j2 O Z Z (jn (AWP.cond O Z Z (fun hc69 => ?_) (fun hc69 => ?_))))))))
 exact absurd (of_decide_eq_true hc69) (by decide)
 refine AWP.skip (AWP.seq (ag (j3 O Z Z Z (jf [72,68,11,10,9,8,7,6,26,5,4,17,3,2,1,0] Z (jn (AWP.cond O Z Z (fun hc72 => ?_) (fun hc72 => ?_)))))))
 exact absurd hc72 (by simp)
 refine AWP.skip (ag (js O Z (jf [74,68,11,10,9,8,7,6,26,5,4,17,3,2,1,0] Z (ao O Z Z Z Z (ef (p := p) h1 h2) (ab Z) Z Z Z Z (B0 := 76000) Z Z (jf [75,68,11,10,9,8,7,6,26,5,4,17,3,2,1,0] Z (aU O (B0 := 77000) Z Z Z Z (ci) (ab Z) Z Z Z Z Z Z (aq ?_)))))))
 refine j4 O Z Z Z Z (js O Z (jf [13,12,68,11,10,9,8,7,6,26,5,4,17,3,2,1,0] Z (jn (AWP.seq (ag (j2 O Z Z (jf [80,79,13,68,11,10,9,8,7,6,26,5,4,17,3,2,1,0] Z (ae O Z Z Z Z ((f5 (xs := ([] : List Pth)) (ys := ([] : List Pth)) h1 h2).plain (u := eB true) (by simp)) (.cons (.c .nils) (.cons (.c .d) .nil)) Z Z Z Z Z (B0 := 82000) Z (j2 O Z Z (jf [83,13,68,11,10,9,8,7,6,26,5,4,17,3,2,1,0] Z (ah Z Z Z Z Z (js O Z (jf [84,83,68,11,10,9,8,7,6,26,5,4,17,3,2,1,0] Z ?_)))))))))))))
 refine ah Z Z Z Z Z (js O Z (ah Z Z Z Z Z (js O Z (aa (aX O Z Z Z Z Z) Z Z Z (jf [87,68,11,10,9,8,7,6,26,5,4,17,3,2,1,0] Z (jn (AWP.cond O Z Z (fun hc87 => ?_) (fun hc87 => ?_))))))))
 exact absurd (show false = true from hc87) (by decide)
 refine AWP.skip (ag (js O Z (aP (j2 O Z Z (jf [89,88,11,68,10,9,8,7,6,26,5,4,17,3,2,1,0] Z (ae O Z Z Z Z ((jK (ts := ([] : List Pth)) (k := 1) h1 h2 (by decide) (by decide)).plain (u := eI 1) Z) (.cons (.c .nils) (.cons (.c .d) .nil)) Z Z Z Z Z (B0 := 91000) Z (js O Z (jf [11,68,10,9,8,7,6,26,5,4,17,3,2,1,0] Z (jn (AWP.seq (ag (j2 O Z Z (jn ?_)))))))))))))
 refine AWP.cond O Z Z (fun hc92 => ?_) (fun hc92 => ?_)
 exact absurd (of_decide_eq_true hc92) (by decide)
 refine AWP.skip (AWP.seq (ag (j3 O Z Z Z (jf [95,91,11,68,10,9,8,7,6,26,5,4,17,3,2,1,0] Z (jn (AWP.cond O Z Z (fun hc95 => ?_) (fun hc95 => ?_)))))))
 exact absurd hc95 (by simp)
 refine AWP.skip (ag (js O Z (jn (AWP.ret ?_))))
 refine ⟨.inl Z, _, Ent.refl, _, Z, ?_⟩
 rfl
theorem t8 {L : Nat} (h1 : 4096 ≤ L) (h2 : L ≤ 9223372036854775807) {p : Pm} (hz : dE 1048576 (Al.szs Tm.size p.pre + Al.szs Sm.size p.body + Al.szs Tm.size p.post) < 0) : MC Tryz.prog L 4 [aPm p] [] (Plain (eB true)) := by
 refine av ?_ Z
 have O := j6 (nt := 96) h1 h2
 refine MC.body O Tryz.func4 (by kernel_rfl) Z Z (Nat.le_of_ble_eq_true Z) (fun hF => ?_)
 refine ag (jx O Z Z Z Z Z Z Z Z (aq ?_))
 refine js O Z (aP (js O Z (aP (j2 O Z Z (ae O Z Z Z Z (c8 (p := p) (left := 1048576) h1 h2 (by decide) (by decide)) (ab Z) Z Z Z Z Z (B0 := 17000) Z (js O Z (jf [3,2,1,0] Z (jn (AWP.seq (ag (j2 O Z Z (jn (AWP.cond O Z Z (fun hc18 => ?_) (fun hc18 => ?_))))))))))))))
 refine ag (js O Z (jn (AWP.ret ?_)))
 refine ⟨.inl Z, _, Ent.refl, _, Z, ?_⟩
 rfl
 exact absurd (of_decide_eq_false hc18) (fun h => h hz)
theorem t5 {p : Pm} {n : Int} {r : List Sq} {m0 : Nat} (hm0 : m0 = r.length) (hcc : 1 + bf nQ r ≤ (1073741824 : Int)) (cs : MQ h1 h2 18 [aPm p, eI n] [] (Plain (.tup [oX r, eB true]))) (ci : MQ h1 h2 19 [aPm p, eI n] [] (Rows (.tup [.c (.rs 0 0 m0), eB true]) [ay r])) (hz1 : 0 ≤ dE 1048576 (Al.szs Tm.size p.pre + Al.szs Sm.size p.body + Al.szs Tm.size p.post)) (hcp : 1 + bf nT p.pre + bf nS p.body + bf nT p.post ≤ (1073741824 : Int)) : MQ h1 h2 5 [aPm p, eI n] [] (Plain (eB true)) := by
 refine av ?_ Z
 refine jB 101 h1 h2 Tryz.func5 Z Z Z fun O hF => ?_
 subst hm0
 have hbig : L ≤ 9223372036854775807 := Nat.le_trans h2 (by decide)
 refine ag (jx O Z Z Z Z Z Z Z Z (aq ?_))
 refine js O Z (aP (js O Z (aP (j2 O Z Z (ae O Z Z Z Z (c8 (p := p) (left := 1048576) h1 hbig (by decide) (by decide)) (ab Z) Z Z Z Z Z (B0 := 19000) Z (js O Z (jf [5,4,2,0,1] Z (jn (AWP.seq (ag (j2 O Z Z (jn (AWP.cond O Z Z (fun hc20 => ?_) (fun hc20 => ?_))))))))))))))
 exact absurd (of_decide_eq_true hc20) (by omega)
 refine AWP.skip (ag (js O Z (jf [22,19,5,4,2,0,1] Z (ao O Z Z Z Z (ef (p := p) h1 h2) (ab Z) Z Z Z Z (B0 := 24000) Z Z (js O Z (jf [24,23,19,5,4,2,0,1] Z (ao O Z Z Z Z (cs) (ab Z) Z Z Z Z (B0 := 26000) Z Z (j4 O Z Z Z Z (js O Z (jf [7,6,19,5,4,2,0,1] Z (aP (js O Z (aU O (B0 := 30000) Z Z Z Z (rF (p := p) h1 h2) (ab Z) Z Z Z Z Z Z ?_)))))))))))))
 refine aq ?_
 refine jf [29,7,6,19,5,4,2,0,1] Z (jl O Z Z Z Z Z Z (aq ?_))
 refine jo O Z Z Z Z Z Z Z Z Z Z Z Z (aq ?_)
 refine aP (j2 O Z Z (aU O (B0 := 34000) Z Z Z Z (ci) (.cons (.agg (.cons (.whole Z (List.length_map _).symm) (.cons (.whole Z (List.length_map _).symm) (.cons (.whole Z (List.length_map _).symm) .nil)))) (.cons (.c .d) .nil)) Z Z Z Z Z Z (aq ?_)))
 refine j4 O Z Z Z Z (js O Z (jf [10,9,8,29,7,6,19,5,4,2,0,1] Z (jn (AWP.seq (ag (j2 O Z Z (ae O Z Z Z Z ((qe (xs := r) (ys := r) h1 h2).plain (u := eB true) (by simp)) (.cons (.c (.whole Z (List.length_map _).symm)) (.cons (.c .d) .nil)) Z Z Z Z Z (B0 := 39000) Z (j2 O Z Z (jf [40,10,9,8,29,7,6,19,5,4,2,0,1] Z (ah Z Z Z Z Z (js O Z (ah Z Z Z Z Z (js O Z ?_)))))))))))))
 refine ah Z Z Z Z Z (js O Z (aa (aX O Z Z Z Z Z) Z Z Z (jf [44,10,9,8,29,7,6,19,5,4,2,0,1] Z (jn (AWP.cond O Z Z (fun hc44 => ?_) (fun hc44 => ?_))))))
 exact absurd (show false = true from hc44) (by decide)
 refine AWP.skip (AWP.seq (AWP.seq (jw [10,9,8,29,7,6,19,5,4,2,0,1] Z (f6 O [_,_,_,_,_] [pn [] 0 1, pn [] 0 0, pe [1] 0, pe [0,1,2] 1, pn [0,1,2,3] 2 2] [2,3] [_,_,_] (ai (kc O Z (V O Z)) (kc O Z (ai (bj O (B0 := 48000) Z Z Z Z (ef (p := p) h1 h2) (ab Z) Z Z Z Z Z) (ai (cb O (B0 := 49000) Z Z Z Z ((sg (s := p) (t := p) h1 h2).plain (u := eB true) (by simp)) (.cons (.agg (.cons (.whole Z (List.length_map _).symm) (.cons (.whole Z (List.length_map _).symm) (.cons (.whole Z (List.length_map _).symm) .nil)))) (.cons (.agg (aw Z)) .nil)) Z Z Z Z Z) (kc O Z trivial))))) ?_))))
 refine jw [49,10,9,8,29,7,6,19,5,4,2,0,1] Z (bZ ?_)
 refine AWP.cond O Z Z (fun hc49 => ?_) (fun hc49 => ?_)
 exact absurd (show false = true from hc49) (by decide)
 refine AWP.skip (ag (js O Z (aP (j2 O Z Z (jf [51,50,11,10,9,8,29,7,6,19,5,4,2,0,1] Z (ap O [30000,30001,30002] (bin := [df p.pre, fk p.body, df p.post]) Z Z Z Z (sf (p := p) (k := 1) h1 h2 (by decide) (by omega)) Z Z Z Z Z Z (B0 := 53000) Z Z (aq ?_)))))))
 refine js O Z (jf [11,10,9,8,29,7,6,19,5,4,2,0,1] Z (jn (AWP.seq (ag (j2 O Z Z ?_)))))
 rw [decide_eq_false (show ¬ (1 + bf nT p.pre + bf nS p.body + bf nT p.post : Int) < 0 by omega)]
 refine js O Z (jf [55,11,10,9,8,29,7,6,19,5,4,2,0,1] Z (ah Z Z Z Z Z (js O Z (ah Z Z Z Z Z (js O Z (ah Z Z Z Z Z (ae O Z Z Z Z ((qe (xs := r) (ys := r) h1 h2).plain (u := eB true) (by simp)) (.cons (.c (.whole Z (List.length_map _).symm)) (.cons (.c .d) .nil)) Z Z Z Z Z (B0 := 59000) Z (jf [58,55,11,10,9,8,29,7,6,19,5,4,2,0,1] Z (ah Z Z Z Z Z (js O Z (aa (aX O Z Z Z Z Z) Z Z Z (js O Z (jf [61,11,10,9,8,29,7,6,19,5,4,2,0,1] Z ?_)))))))))))))
 refine ah Z Z Z Z Z (js O Z (ah Z Z Z Z Z (js O Z (ah Z Z Z Z Z (js O Z (aa (aX O Z Z Z Z Z) Z Z Z (jf [65,11,10,9,8,29,7,6,19,5,4,2,0,1] Z (jn (AWP.cond O Z Z (fun hc65 => ?_) (fun hc65 => ?_))))))))))
 exact absurd (show false = true from hc65) (by decide)
 refine AWP.skip (ag (js O Z (aP (j2 O Z Z (jf [67,66,12,11,10,9,8,29,7,6,19,5,4,2,0,1] Z (ap O [34000] (bin := [ay r]) Z Z Z Z (sM (ts := r) (k := 1) h1 h2 (by decide) (by omega)) Z Z Z Z Z Z (B0 := 69000) Z Z (aq ?_)))))))
 refine js O Z (jf [12,11,10,9,8,29,7,6,19,5,4,2,0,1] Z (aP (js O Z (aP (j2 O Z Z (ae O Z Z Z Z (jJ (ts := r) (k := 1) h1 h2 (by decide) (by omega)) (.cons (.c (.whole Z (by rw [List.length_map, aK]))) (.cons (.c .d) .nil)) Z Z Z Z Z (B0 := 72000) Z (js O Z (jf [13,12,11,10,9,8,29,7,6,19,5,4,2,0,1] Z (jn (AWP.seq (ag (j2 O Z Z (jn ?_)))))))))))))
 refine AWP.cond O Z Z (fun hc73 => ?_) (fun hc73 => ?_)
 exact absurd (of_decide_eq_true hc73) (by omega)
 refine AWP.skip (AWP.seq (ag (j3 O Z Z Z (jf [76,72,13,12,11,10,9,8,29,7,6,19,5,4,2,0,1] Z (jn (AWP.cond O Z Z (fun hc76 => ?_) (fun hc76 => ?_)))))))
 exact absurd hc76 (by simp)
 refine AWP.skip (ag (js O Z (jf [78,72,13,12,11,10,9,8,29,7,6,19,5,4,2,0,1] Z (ao O Z Z Z Z (ef (p := p) h1 h2) (ab Z) Z Z Z Z (B0 := 80000) Z Z (js O Z (jf [80,79,72,13,12,11,10,9,8,29,7,6,19,5,4,2,0,1] Z (aU O (B0 := 82000) Z Z Z Z (ci) (ab Z) Z Z Z Z Z Z (aq ?_))))))))
 refine j4 O Z Z Z Z (js O Z (jf [15,14,72,13,12,11,10,9,8,29,7,6,19,5,4,2,0,1] Z (jn (AWP.seq (ag (j2 O Z Z (jf [85,84,15,72,13,12,11,10,9,8,29,7,6,19,5,4,2,0,1] Z (ae O Z Z Z Z ((qe (xs := r) (ys := r) h1 h2).plain (u := eB true) (by simp)) (.cons (.c (.whole Z (List.length_map _).symm)) (.cons (.c .d) .nil)) Z Z Z Z Z (B0 := 87000) Z (j2 O Z Z (jf [88,15,72,13,12,11,10,9,8,29,7,6,19,5,4,2,0,1] Z (ah Z Z Z Z Z (js O Z (jf [89,88,72,13,12,11,10,9,8,29,7,6,19,5,4,2,0,1] Z ?_)))))))))))))
 refine ah Z Z Z Z Z (js O Z (ah Z Z Z Z Z (js O Z (aa (aX O Z Z Z Z Z) Z Z Z (jf [92,72,13,12,11,10,9,8,29,7,6,19,5,4,2,0,1] Z (jn (AWP.cond O Z Z (fun hc92 => ?_) (fun hc92 => ?_))))))))
 exact absurd (show false = true from hc92) (by decide)
 refine AWP.skip (ag (js O Z (aP (j2 O Z Z (jf [94,93,13,72,12,11,10,9,8,29,7,6,19,5,4,2,0,1] Z (ae O Z Z Z Z (jJ (ts := r) (k := 1) h1 h2 (by decide) (by omega)) (.cons (.c (.whole Z (by rw [List.length_map, aK]))) (.cons (.c .d) .nil)) Z Z Z Z Z (B0 := 96000) Z (js O Z (jf [13,72,12,11,10,9,8,29,7,6,19,5,4,2,0,1] Z (jn (AWP.seq (ag (j2 O Z Z (jn ?_)))))))))))))
 refine AWP.cond O Z Z (fun hc97 => ?_) (fun hc97 => ?_)
 exact absurd (of_decide_eq_true hc97) (by omega)
 refine AWP.skip (AWP.seq (ag (j3 O Z Z Z (jf [100,96,13,72,12,11,10,9,8,29,7,6,19,5,4,2,0,1] Z (jn (AWP.cond O Z Z (fun hc100 => ?_) (fun hc100 => ?_)))))))
 exact absurd hc100 (by simp)
 refine AWP.skip (ag (js O Z (jn (AWP.ret ?_))))
 refine ⟨.inl Z, _, Ent.refl, _, Z, ?_⟩
 rfl
theorem l7 {p : Pm} {n : Int} (cs : MQ h1 h2 18 [aPm p, eI n] [] (Plain (.tup [oX ([] : List Sq), eB false]))) (ci : MQ h1 h2 19 [aPm p, eI n] [] (Rows (.tup [.c (.d .nils), eB false]) [])) (hz1 : 0 ≤ dE 1048576 (Al.szs Tm.size p.pre + Al.szs Sm.size p.body + Al.szs Tm.size p.post)) (hcp : 1 + bf nT p.pre + bf nS p.body + bf nT p.post ≤ (1073741824 : Int)) : MQ h1 h2 5 [aPm p, eI n] [] (Plain (eB true)) := by
 refine av ?_ Z
 refine jB 101 h1 h2 Tryz.func5 Z Z Z fun O hF => ?_
 have hbig : L ≤ 9223372036854775807 := Nat.le_trans h2 (by decide)
 refine ag (jx O Z Z Z Z Z Z Z Z (aq ?_))
 refine js O Z (aP (js O Z (aP (j2 O Z Z (ae O Z Z Z Z (c8 (p := p) (left := 1048576) h1 hbig (by decide) (by decide)) (ab Z) Z Z Z Z Z (B0 := 19000) Z (js O Z (jf [5,4,2,0,1] Z (jn (AWP.seq (ag (j2 O Z Z (jn (AWP.cond O Z Z (fun hc20 => ?_) (fun hc20 => ?_))))))))))))))
 exact absurd (of_decide_eq_true hc20) (by omega)
 refine AWP.skip (ag (js O Z (jf [22,19,5,4,2,0,1] Z (ao O Z Z Z Z (ef (p := p) h1 h2) (ab Z) Z Z Z Z (B0 := 24000) Z Z (js O Z (jf [24,23,19,5,4,2,0,1] Z (ao O Z Z Z Z (cs) (ab Z) Z Z Z Z (B0 := 26000) Z Z (j4 O Z Z Z Z (js O Z (jf [7,6,19,5,4,2,0,1] Z (aP (js O Z (aU O (B0 := 30000) Z Z Z Z (rF (p := p) h1 h2) (ab Z) Z Z Z Z Z Z ?_)))))))))))))
 refine aq ?_
 refine jf [29,7,6,19,5,4,2,0,1] Z (jl O Z Z Z Z Z Z (aq ?_))
 refine jo O Z Z Z Z Z Z Z Z Z Z Z Z (aq ?_)
 refine aP (j2 O Z Z (aU O (B0 := 34000) Z Z Z Z (ci) (.cons (.agg (.cons (.whole Z (List.length_map _).symm) (.cons (.whole Z (List.length_map _).symm) (.cons (.whole Z (List.length_map _).symm) .nil)))) (.cons (.c .d) .nil)) Z Z Z Z Z Z (aq ?_)))
 refine j4 O Z Z Z Z (js O Z (jf [10,9,8,29,7,6,19,5,4,2,0,1] Z (jn (AWP.seq (ag (j2 O Z Z (ae O Z Z Z Z ((qe (xs := ([] : List Sq)) (ys := ([] : List Sq)) h1 h2).plain (u := eB true) (by simp)) (.cons (.c .nils) (.cons (.c .d) .nil)) Z Z Z Z Z (B0 := 39000) Z (j2 O Z Z (jf [40,10,9,8,29,7,6,19,5,4,2,0,1] Z (ah Z Z Z Z Z (js O Z (ah Z Z Z Z Z (js O Z ?_)))))))))))))
 refine ah Z Z Z Z Z (js O Z (aa (aX O Z Z Z Z Z) Z Z Z (jf [44,10,9,8,29,7,6,19,5,4,2,0,1] Z (jn (AWP.cond O Z Z (fun hc44 => ?_) (fun hc44 => ?_))))))
 exact absurd (show false = true from hc44) (by decide)
 refine AWP.skip (AWP.seq (AWP.seq (jw [10,9,8,29,7,6,19,5,4,2,0,1] Z (f6 O [_,_,_,_,_] [pn [] 0 1, pn [] 0 0, pe [1] 0, pe [0,1,2] 1, pn [0,1,2,3] 2 2] [2,3] [_,_,_] (ai (kc O Z (V O Z)) (kc O Z (ai (bj O (B0 := 48000) Z Z Z Z (ef (p := p) h1 h2) (ab Z) Z Z Z Z Z) (ai (cb O (B0 := 49000) Z Z Z Z ((sg (s := p) (t := p) h1 h2).plain (u := eB true) (by simp)) (.cons (.agg (.cons (.whole Z (List.length_map _).symm) (.cons (.whole Z (List.length_map _).symm) (.cons (.whole Z (List.length_map _).symm) .nil)))) (.cons (.agg (aw Z)) .nil)) Z Z Z Z Z) (kc O Z trivial))))) ?_))))
 refine jw [49,10,9,8,29,7,6,19,5,4,2,0,1] Z (bZ ?_)
 refine AWP.cond O Z Z (fun hc49 => ?_) (fun hc49 => ?_)
 exact absurd (show false = true from hc49) (by decide)
 refine AWP.skip (ag (js O Z (aP (j2 O Z Z (jf [51,50,11,10,9,8,29,7,6,19,5,4,2,0,1] Z (ap O [30000,30001,30002] (bin := [df p.pre, fk p.body, df p.post]) Z Z Z Z (sf (p := p) (k := 1) h1 h2 (by decide) (by omega)) Z Z Z Z Z Z (B0 := 53000) Z Z (aq ?_)))))))
 refine js O Z (jf [11,10,9,8,29,7,6,19,5,4,2,0,1] Z (jn (AWP.seq (ag (j2 O Z Z ?_)))))
 rw [decide_eq_false (show ¬ (1 + bf nT p.pre + bf nS p.body + bf nT p.post : Int) < 0 by omega)]
 refine js O Z (jf [55,11,10,9,8,29,7,6,19,5,4,2,0,1] Z (ah Z Z Z Z Z (js O Z (ah Z Z Z Z Z (js O Z (ah Z Z Z Z Z (ae O Z Z Z Z ((qe (xs := ([] : List Sq)) (ys := ([] : List Sq)) h1 h2).plain (u := eB true) (by simp)) (.cons (.c .nils) (.cons (.c .d) .nil)) Z Z Z Z Z (B0 := 59000) Z (jf [58,55,11,10,9,8,29,7,6,19,5,4,2,0,1] Z (ah Z Z Z Z Z (js O Z (aa (aX O Z Z Z Z Z) Z Z Z (js O Z (jf [61,11,10,9,8,29,7,6,19,5,4,2,0,1] Z ?_)))))))))))))
 refine ah Z Z Z Z Z (js O Z (ah Z Z Z Z Z (js O Z (ah Z Z Z Z Z (js O Z (aa (aX O Z Z Z Z Z) Z Z Z (jf [65,11,10,9,8,29,7,6,19,5,4,2,0,1] Z (jn (AWP.cond O Z Z (fun hc65 => ?_) (fun hc65 => ?_))))))))))
 exact absurd (show false = true from hc65) (by decide)
 refine AWP.skip (ag (js O Z (aP (j2 O Z Z (jf [67,66,12,11,10,9,8,29,7,6,19,5,4,2,0,1] Z (ae O Z Z Z Z (qU (k := 1) h1 h2) (.cons (.c .nils) (.cons (.c .d) .nil)) Z Z Z Z Z (B0 := 69000) Z (js O Z (jf [12,11,10,9,8,29,7,6,19,5,4,2,0,1] Z (aP (js O Z (aP (j2 O Z Z (ae O Z Z Z Z ((jJ (ts := ([] : List Sq)) (k := 1) h1 h2 (by decide) (by decide)).plain (u := eI 1) Z) (.cons (.c .nils) (.cons (.c .d) .nil)) Z Z Z Z Z (B0 := 72000) Z ?_)))))))))))))
 refine js O Z (jf [13,12,11,10,9,8,29,7,6,19,5,4,2,0,1] Z (jn (AWP.seq (ag (j2 O Z Z (jn (AWP.cond O Z Z (fun hc73 => ?_) (fun hc73 => ?_))))))))
 exact absurd (of_decide_eq_true hc73) (by decide)
 refine AWP.skip (AWP.seq (ag (j3 O Z Z Z (jf [76,72,13,12,11,10,9,8,29,7,6,19,5,4,2,0,1] Z (jn (AWP.cond O Z Z (fun hc76 => ?_) (fun hc76 => ?_)))))))
 exact absurd hc76 (by simp)
 refine AWP.skip (ag (js O Z (jf [78,72,13,12,11,10,9,8,29,7,6,19,5,4,2,0,1] Z (ao O Z Z Z Z (ef (p := p) h1 h2) (ab Z) Z Z Z Z (B0 := 80000) Z Z (js O Z (jf [80,79,72,13,12,11,10,9,8,29,7,6,19,5,4,2,0,1] Z (aU O (B0 := 82000) Z Z Z Z (ci) (ab Z) Z Z Z Z Z Z (aq ?_))))))))
 refine j4 O Z Z Z Z (js O Z (jf [15,14,72,13,12,11,10,9,8,29,7,6,19,5,4,2,0,1] Z (jn (AWP.seq (ag (j2 O Z Z (jf [85,84,15,72,13,12,11,10,9,8,29,7,6,19,5,4,2,0,1] Z (ae O Z Z Z Z ((qe (xs := ([] : List Sq)) (ys := ([] : List Sq)) h1 h2).plain (u := eB true) (by simp)) (.cons (.c .nils) (.cons (.c .d) .nil)) Z Z Z Z Z (B0 := 87000) Z (j2 O Z Z (jf [88,15,72,13,12,11,10,9,8,29,7,6,19,5,4,2,0,1] Z (ah Z Z Z Z Z (js O Z (jf [89,88,72,13,12,11,10,9,8,29,7,6,19,5,4,2,0,1] Z ?_)))))))))))))
 refine ah Z Z Z Z Z (js O Z (ah Z Z Z Z Z (js O Z (aa (aX O Z Z Z Z Z) Z Z Z (jf [92,72,13,12,11,10,9,8,29,7,6,19,5,4,2,0,1] Z (jn (AWP.cond O Z Z (fun hc92 => ?_) (fun hc92 => ?_))))))))
 exact absurd (show false = true from hc92) (by decide)
 refine AWP.skip (ag (js O Z (aP (j2 O Z Z (jf [94,93,13,72,12,11,10,9,8,29,7,6,19,5,4,2,0,1] Z (ae O Z Z Z Z ((jJ (ts := ([] : List Sq)) (k := 1) h1 h2 (by decide) (by decide)).plain (u := eI 1) Z) (.cons (.c .nils) (.cons (.c .d) .nil)) Z Z Z Z Z (B0 := 96000) Z (js O Z (jf [13,72,12,11,10,9,8,29,7,6,19,5,4,2,0,1] Z (jn (AWP.seq (ag (j2 O Z Z (jn ?_)))))))))))))
 refine AWP.cond O Z Z (fun hc97 => ?_) (fun hc97 => ?_)
 exact absurd (of_decide_eq_true hc97) (by decide)
 refine AWP.skip (AWP.seq (ag (j3 O Z Z Z (jf [100,96,13,72,12,11,10,9,8,29,7,6,19,5,4,2,0,1] Z (jn (AWP.cond O Z Z (fun hc100 => ?_) (fun hc100 => ?_)))))))
 exact absurd hc100 (by simp)
 refine AWP.skip (ag (js O Z (jn (AWP.ret ?_))))
 refine ⟨.inl Z, _, Ent.refl, _, Z, ?_⟩
 rfl
theorem t6 {L : Nat} (h1 : 4096 ≤ L) (h2 : L ≤ 9223372036854775807) {p : Pm} {n : Int} (hz : dE 1048576 (Al.szs Tm.size p.pre + Al.szs Sm.size p.body + Al.szs Tm.size p.post) < 0) : MC Tryz.prog L 5 [aPm p, eI n] [] (Plain (eB true)) := by
 refine av ?_ Z
 have O := j6 (nt := 101) h1 h2
 refine MC.body O Tryz.func5 (by kernel_rfl) Z Z (Nat.le_of_ble_eq_true Z) (fun hF => ?_)
 refine ag (jx O Z Z Z Z Z Z Z Z (aq ?_))
 refine js O Z (aP (js O Z (aP (j2 O Z Z (ae O Z Z Z Z (c8 (p := p) (left := 1048576) h1 h2 (by decide) (by decide)) (ab Z) Z Z Z Z Z (B0 := 19000) Z (js O Z (jf [5,4,2,0,1] Z (jn (AWP.seq (ag (j2 O Z Z (jn (AWP.cond O Z Z (fun hc20 => ?_) (fun hc20 => ?_))))))))))))))
 refine ag (js O Z (jn (AWP.ret ?_)))
 refine ⟨.inl Z, _, Ent.refl, _, Z, ?_⟩
 rfl
 exact absurd (of_decide_eq_false hc20) (fun h => h hz)
theorem t3 {p : Pm} {r : List Sq} {m0 : Nat} (hm0 : m0 = r.length) (hcc : 1 + bf nQ r ≤ (1073741824 : Int)) (cs : MQ h1 h2 23 [aPm p] [] (Plain (.tup [oX r, eB true]))) (ci : MQ h1 h2 24 [aPm p] [] (Rows (.tup [.c (.rs 0 0 m0), eB true]) [ay r])) (hz1 : 0 ≤ dE 1048576 (Al.szs Tm.size p.pre + Al.szs Sm.size p.body + Al.szs Tm.size p.post)) (hcp : 1 + bf nT p.pre + bf nS p.body + bf nT p.post ≤ (1073741824 : Int)) : MQ h1 h2 6 [aPm p] [] (Plain (eB true)) := by
 refine av ?_ Z
 refine jB 96 h1 h2 Tryz.func6 Z Z Z fun O hF => ?_
 subst hm0
 have hbig : L ≤ 9223372036854775807 := Nat.le_trans h2 (by decide)
 refine ag (jx O Z Z Z Z Z Z Z Z (aq ?_))
 refine js O Z (aP (js O Z (aP (j2 O Z Z (ae O Z Z Z Z (c8 (p := p) (left := 1048576) h1 hbig (by decide) (by decide)) (ab Z) Z Z Z Z Z (B0 := 17000) Z (js O Z (jf [3,2,1,0] Z (jn (AWP.seq (ag (j2 O Z Z (jn (AWP.cond O Z Z (fun hc18 => ?_) (fun hc18 => ?_))))))))))))))
 exact absurd (of_decide_eq_true hc18) (by omega)
 refine AWP.skip (ag (js O Z (jf [20,17,3,2,1,0] Z (ao O Z Z Z Z (ef (p := p) h1 h2) (ab Z) Z Z Z Z (B0 := 22000) Z Z (jf [21,17,3,2,1,0] Z (ao O Z Z Z Z (cs) (ab Z) Z Z Z Z (B0 := 23000) Z Z (j4 O Z Z Z Z (js O Z (jf [5,4,17,3,2,1,0] Z (aP (js O Z (aU O (B0 := 27000) Z Z Z Z (rF (p := p) h1 h2) (ab Z) Z Z Z Z Z Z (aq ?_)))))))))))))
 refine jf [26,5,4,17,3,2,1,0] Z (jl O Z Z Z Z Z Z (aq ?_))
 refine jo O Z Z Z Z Z Z Z Z Z Z Z Z (aq ?_)
 refine aP (js O Z (aU O (B0 := 30000) Z Z Z Z (ci) (.cons (.agg (.cons (.whole Z (List.length_map _).symm) (.cons (.whole Z (List.length_map _).symm) (.cons (.whole Z (List.length_map _).symm) .nil)))) .nil) Z Z Z Z Z Z (aq ?_)))
 refine j4 O Z Z Z Z (js O Z (jf [8,7,6,26,5,4,17,3,2,1,0] Z (jn (AWP.seq (ag (j2 O Z Z (ae O Z Z Z Z ((qe (xs := r) (ys := r) h1 h2).plain (u := eB true) (by simp)) (.cons (.c (.whole Z (List.length_map _).symm)) (.cons (.c .d) .nil)) Z Z Z Z Z (B0 := 35000) Z (j2 O Z Z (jf [36,8,7,6,26,5,4,17,3,2,1,0] Z (ah Z Z Z Z Z (js O Z (ah Z Z Z Z Z (js O Z ?_)))))))))))))
 refine ah Z Z Z Z Z (js O Z (aa (aX O Z Z Z Z Z) Z Z Z (jf [40,8,7,6,26,5,4,17,3,2,1,0] Z (jn (AWP.cond O Z Z (fun hc40 => ?_) (fun hc40 => ?_))))))
 exact absurd (show false = true from hc40) (by decide)
 refine AWP.skip (AWP.seq (AWP.seq (jw [8,7,6,26,5,4,17,3,2,1,0] Z (f6 O [_,_,_,_,_] [pn [] 0 1, pn [] 0 0, pe [1] 0, pe [0,1,2] 1, pn [0,1,2,3] 2 2] [2,3] [_,_,_] (ai (kc O Z (V O Z)) (kc O Z (ai (bj O (B0 := 44000) Z Z Z Z (ef (p := p) h1 h2) (ab Z) Z Z Z Z Z) (ai (cb O (B0 := 45000) Z Z Z Z ((sg (s := p) (t := p) h1 h2).plain (u := eB true) (by simp)) (.cons (.agg (.cons (.whole Z (List.length_map _).symm) (.cons (.whole Z (List.length_map _).symm) (.cons (.whole Z (List.length_map _).symm) .nil)))) (.cons (.agg (aw Z)) .nil)) Z Z Z Z Z) (kc O Z trivial))))) ?_))))
 refine jw [45,8,7,6,26,5,4,17,3,2,1,0] Z (bZ ?_)
 refine AWP.cond O Z Z (fun hc45 => ?_) (fun hc45 => ?_)
 exact absurd (show false = true from hc45) (by decide)
 refine AWP.skip (ag (js O Z (aP (j2 O Z Z (jf [47,46,9,8,7,6,26,5,4,17,3,2,1,0] Z (ap O [27000,27001,27002] (bin := [df p.pre, fk p.body, df p.post]) Z Z Z Z (sf (p := p) (k := 1) h1 h2 (by decide) (by omega)) Z Z Z Z Z Z (B0 := 49000) Z Z (aq ?_)))))))
 refine js O Z (jf [9,8,7,6,26,5,4,17,3,2,1,0] Z (jn (AWP.seq (ag (j2 O Z Z ?_)))))
 rw [decide_eq_false (show ¬ (1 + bf nT p.pre + bf nS p.body + bf nT p.post : Int) < 0 by omega)]
 refine js O Z (jf [51,9,8,7,6,26,5,4,17,3,2,1,0] Z (ah Z Z Z Z Z (js O Z (ah Z Z Z Z Z (js O Z (ah Z Z Z Z Z (ae O Z Z Z Z ((qe (xs := r) (ys := r) h1 h2).plain (u := eB true) (by simp)) (.cons (.c (.whole Z (List.length_map _).symm)) (.cons (.c .d) .nil)) Z Z Z Z Z (B0 := 55000) Z (jf [54,51,9,8,7,6,26,5,4,17,3,2,1,0] Z (ah Z Z Z Z Z (js O Z (aa (aX O Z Z Z Z Z) Z Z Z (js O Z (jf [57,9,8,7,6,26,5,4,17,3,2,1,0] Z ?_)))))))))))))
 refine ah Z Z Z Z Z (js O Z (ah Z Z Z Z Z (js O Z (ah Z Z Z Z Z (js O Z (aa (aX O Z Z Z Z Z) Z Z Z (jf [61,9,8,7,6,26,5,4,17,3,2,1,0] Z (jn (AWP.cond O Z Z (fun hc61 => ?_) (fun hc61 => ?_))))))))))
 exact absurd (show false = true from hc61) (by decide)
 refine AWP.skip (ag (js O Z (aP (j2 O Z Z (jf [63,62,10,9,8,7,6,26,5,4,17,3,2,1,0] Z (ap O [30000] (bin := [ay r]) Z Z Z Z (sM (ts := r) (k := 1) h1 h2 (by decide) (by omega)) Z Z Z Z Z Z (B0 := 65000) Z Z (aq ?_)))))))
 refine js O Z (jf [10,9,8,7,6,26,5,4,17,3,2,1,0] Z (aP (js O Z (aP (j2 O Z Z (ae O Z Z Z Z (jJ (ts := r) (k := 1) h1 h2 (by decide) (by omega)) (.cons (.c (.whole Z (by rw [List.length_map, aK]))) (.cons (.c .d) .nil)) Z Z Z Z Z (B0 := 68000) Z (js O Z (jf [11,10,9,8,7,6,26,5,4,17,3,2,1,0] Z (jn (AWP.seq (ag (j2 O Z Z (jn ?_)))))))))))))
 refine AWP.cond O Z Z (fun hc69 => ?_) (fun hc69 => ?_)
 exact absurd (of_decide_eq_true hc69) (by omega)
 refine AWP.skip (AWP.seq (ag (j3 O Z Z Z (jf [72,68,11,10,9,8,7,6,26,5,4,17,3,2,1,0] Z (jn (AWP.cond O Z Z (fun hc72 => ?_) (fun hc72 => ?_)))))))
 exact absurd hc72 (by simp)
 refine AWP.skip (ag (js O Z (jf [74,68,11,10,9,8,7,6,26,5,4,17,3,2,1,0] Z (ao O Z Z Z Z (ef (p := p) h1 h2) (ab Z) Z Z Z Z (B0 := 76000) Z Z (jf [75,68,11,10,9,8,7,6,26,5,4,17,3,2,1,0] Z (aU O (B0 := 77000) Z Z Z Z (ci) (ab Z) Z Z Z Z Z Z (aq ?_)))))))
 refine j4 O Z Z Z Z (js O Z (jf [13,12,68,11,10,9,8,7,6,26,5,4,17,3,2,1,0] Z (jn (AWP.seq (ag (j2 O Z Z (jf [80,79,13,68,11,10,9,8,7,6,26,5,4,17,3,2,1,0] Z (ae O Z Z Z Z ((qe (xs := r) (ys := r) h1 h2).plain (u := eB true) (by simp)) (.cons (.c (.whole Z (List.length_map _).symm)) (.cons (.c .d) .nil)) Z Z Z Z Z (B0 := 82000) Z (j2 O Z Z (jf [83,13,68,11,10,9,8,7,6,26,5,4,17,3,2,1,0] Z (ah Z Z Z Z Z (js O Z (jf [84,83,68,11,10,9,8,7,6,26,5,4,17,3,2,1,0] Z ?_)))))))))))))
 refine ah Z Z Z Z Z (js O Z (ah Z Z Z Z Z (js O Z (aa (aX O Z Z Z Z Z) Z Z Z (jf [87,68,11,10,9,8,7,6,26,5,4,17,3,2,1,0] Z (jn (AWP.cond O Z Z (fun hc87 => ?_) (fun hc87 => ?_))))))))
 exact absurd (show false = true from hc87) (by decide)
 refine AWP.skip (ag (js O Z (aP (j2 O Z Z (jf [89,88,11,68,10,9,8,7,6,26,5,4,17,3,2,1,0] Z (ae O Z Z Z Z (jJ (ts := r) (k := 1) h1 h2 (by decide) (by omega)) (.cons (.c (.whole Z (by rw [List.length_map, aK]))) (.cons (.c .d) .nil)) Z Z Z Z Z (B0 := 91000) Z (js O Z (jf [11,68,10,9,8,7,6,26,5,4,17,3,2,1,0] Z (jn (AWP.seq (ag (j2 O Z Z (jn ?_)))))))))))))
 refine AWP.cond O Z Z (fun hc92 => ?_) (fun hc92 => ?_)
 exact absurd (of_decide_eq_true hc92) (by omega)
 refine AWP.skip (AWP.seq (ag (j3 O Z Z Z (jf [95,91,11,68,10,9,8,7,6,26,5,4,17,3,2,1,0] Z (jn (AWP.cond O Z Z (fun hc95 => ?_) (fun hc95 => ?_)))))))
 exact absurd hc95 (by simp)
 refine AWP.skip (ag (js O Z (jn (AWP.ret ?_))))
 refine ⟨.inl Z, _, Ent.refl, _, Z, ?_⟩
 rfl
theorem nN {p : Pm} (cs : MQ h1 h2 23 [aPm p] [] (Plain (.tup [oX ([] : List Sq), eB false]))) (ci : MQ h1 h2 24 [aPm p] [] (Rows (.tup [.c (.d .nils), eB false]) [])) (hz1 : 0 ≤ dE 1048576 (Al.szs Tm.size p.pre + Al.szs Sm.size p.body + Al.szs Tm.size p.post)) (hcp : 1 + bf nT p.pre + bf nS p.body + bf nT p.post ≤ (1073741824 : Int)) : MQ h1 h2 6 [aPm p] [] (Plain (eB true)) := by
 refine av ?_ Z
 refine jB 96 h1 h2 Tryz.func6 Z Z Z fun O hF => ?_
 have hbig : L ≤ 9223372036854775807 := Nat.le_trans h2 (by decide)
 refine ag (jx O Z Z Z Z Z Z Z Z (aq ?_))
 refine js O Z (aP (js O Z (aP (j2 O Z Z (ae O Z Z Z Z (c8 (p := p) (left := 1048576) h1 hbig (by decide) (by decide)) (ab Z) Z Z Z Z Z (B0 := 17000) Z (js O Z (jf [3,2,1,0] Z (jn (AWP.seq (ag (j2 O Z Z (jn (AWP.cond O Z Z (fun hc18 => ?_) (fun hc18 => ?_))))))))))))))
 exact absurd (of_decide_eq_true hc18) (by omega)
 refine AWP.skip (ag (js O Z (jf [20,17,3,2,1,0] Z (ao O Z Z Z Z (ef (p := p) h1 h2) (ab Z) Z Z Z Z (B0 := 22000) Z Z (jf [21,17,3,2,1,0] Z (ao O Z Z Z Z (cs) (ab Z) Z Z Z Z (B0 := 23000) Z Z (j4 O Z Z Z Z (js O Z (jf [5,4,17,3,2,1,0] Z (aP (js O Z (aU O (B0 := 27000) Z Z Z Z (rF (p := p) h1 h2) (ab Z) Z Z Z Z Z Z (aq ?_)))))))))))))
 refine jf [26,5,4,17,3,2,1,0] Z (jl O Z Z Z Z Z Z (aq ?_))
 refine jo O Z Z Z Z Z Z Z Z Z Z Z Z (aq ?_)
 refine aP (js O Z (aU O (B0 := 30000) Z Z Z Z (ci) (.cons (.agg (.cons (.whole Z (List.length_map _).symm) (.cons (.whole Z (List.length_map _).symm) (.cons (.whole Z (List.length_map _).symm) .nil)))) .nil) Z Z Z Z Z Z (aq ?_)))
 refine j4 O Z Z Z Z (js O Z (jf [8,7,6,26,5,4,17,3,2,1,0] Z (jn (AWP.seq (ag (j2 O Z Z (ae O Z Z Z Z ((qe (xs := ([] : List Sq)) (ys := ([] : List Sq)) h1 h2).plain (u := eB true) (by simp)) (.cons (.c .nils) (.cons (.c .d) .nil)) Z Z Z Z Z (B0 := 35000) Z (j2 O Z Z (jf [36,8,7,6,26,5,4,17,3,2,1,0] Z (ah Z Z Z Z Z (js O Z (ah Z Z Z Z Z (js O Z ?_)))))))))))))
 refine ah Z Z Z Z Z (js O Z (aa (aX O Z Z Z Z Z) Z Z Z (jf [40,8,7,6,26,5,4,17,3,2,1,0] Z (jn (AWP.cond O Z Z (fun hc40 => ?_) (fun hc40 => ?_))))))
 exact absurd (show false = true from hc40) (by decide)
 refine AWP.skip (AWP.seq (AWP.seq (jw [8,7,6,26,5,4,17,3,2,1,0] Z (f6 O [_,_,_,_,_] [pn [] 0 1, pn [] 0 0, pe [1] 0, pe [0,1,2] 1, pn [0,1,2,3] 2 2] [2,3] [_,_,_] (ai (kc O Z (V O Z)) (kc O Z (ai (bj O (B0 := 44000) Z Z Z Z (ef (p := p) h1 h2) (ab Z) Z Z Z Z Z) (ai (cb O (B0 := 45000) Z Z Z Z ((sg (s := p) (t := p) h1 h2).plain (u := eB true) (by simp)) (.cons (.agg (.cons (.whole Z (List.length_map _).symm) (.cons (.whole Z (List.length_map _).symm) (.cons (.whole Z (List.length_map _).symm) .nil)))) (.cons (.agg (aw Z)) .nil)) Z Z Z Z Z) (kc O Z trivial))))) ?_))))
 refine jw [45,8,7,6,26,5,4,17,3,2,1,0] Z (bZ ?_)
 refine AWP.cond O Z Z (fun hc45 => ?_) (fun hc45 => ?_)
 exact absurd (show false = true from hc45) (by decide)
 refine AWP.skip (ag (js O Z (aP (j2 O Z Z (jf [47,46,9,8,7,6,26,5,4,17,3,2,1,0] Z (ap O [27000,27001,27002] (bin := [df p.pre, fk p.body, df p.post]) Z Z Z Z (sf (p := p) (k := 1) h1 h2 (by decide) (by omega)) Z Z Z Z Z Z (B0 := 49000) Z Z (aq ?_)))))))
 refine js O Z (jf [9,8,7,6,26,5,4,17,3,2,1,0] Z (jn (AWP.seq (ag (j2 O Z Z ?_)))))
 rw [decide_eq_false (show ¬ (1 + bf nT p.pre + bf nS p.body + bf nT p.post : Int) < 0 by omega)]
 refine js O Z (jf [51,9,8,7,6,26,5,4,17,3,2,1,0] Z (ah Z Z Z Z Z (js O Z (ah Z Z Z Z Z (js O Z (ah Z Z Z Z Z (ae O Z Z Z Z ((qe (xs := ([] : List Sq)) (ys := ([] : List Sq)) h1 h2).plain (u := eB true) (by simp)) (.cons (.c .nils) (.cons (.c .d) .nil)) Z Z Z Z Z (B0 := 55000) Z (jf [54,51,9,8,7,6,26,5,4,17,3,2,1,0] Z (ah Z Z Z Z Z (js O Z (aa (aX O Z Z Z Z Z) Z Z Z (js O Z (jf [57,9,8,7,6,26,5,4,17,3,2,1,0] Z ?_)))))))))))))
 refine ah Z Z Z Z Z (js O Z (ah Z Z Z Z Z (js O Z (ah Z Z Z Z Z (js O Z (aa (aX O Z Z Z Z Z) Z Z Z (jf [61,9,8,7,6,26,5,4,17,3,2,1,0] Z (jn (AWP.cond O Z Z (fun hc61 => ?_) (fun hc61 => ?_))))))))))
 exact absurd (show false = true from hc61) (by decide)
 refine AWP.skip (ag (js O Z (aP (j2 O Z Z (jf [63,62,10,9,8,7,6,26,5,4,17,3,2,1,0] Z (ae O Z Z Z Z (qU (k := 1) h1 h2) (.cons (.c .nils) (.cons (.c .d) .nil)) Z Z Z Z Z (B0 := 65000) Z (js O Z (jf [10,9,8,7,6,26,5,4,17,3,2,1,0] Z (aP (js O Z (aP (j2 O Z Z (ae O Z Z Z Z ((jJ (ts := ([] : List Sq)) (k := 1) h1 h2 (by decide) (by decide)).plain (u := eI 1) Z) (.cons (.c .nils) (.cons (.c .d) .nil)) Z Z Z Z Z (B0 := 68000) Z ?_)))))))))))))
 refine js O Z (jf [11,10,9,8,7,6,26,5,4,17,3,2,1,0] Z (jn (AWP.seq (ag (j2 O Z Z (jn (AWP.cond O Z Z (fun hc69 => ?_) (fun hc69 => ?_))))))))
 exact absurd (of_decide_eq_true hc69) (by decide)
 refine AWP.skip (AWP.seq (ag (j3 O Z Z Z (jf [72,68,11,10,9,8,7,6,26,5,4,17,3,2,1,0] Z (jn (AWP.cond O Z Z (fun hc72 => ?_) (fun hc72 => ?_)))))))
 exact absurd hc72 (by simp)
 refine AWP.skip (ag (js O Z (jf [74,68,11,10,9,8,7,6,26,5,4,17,3,2,1,0] Z (ao O Z Z Z Z (ef (p := p) h1 h2) (ab Z) Z Z Z Z (B0 := 76000) Z Z (jf [75,68,11,10,9,8,7,6,26,5,4,17,3,2,1,0] Z (aU O (B0 := 77000) Z Z Z Z (ci) (ab Z) Z Z Z Z Z Z (aq ?_)))))))
 refine j4 O Z Z Z Z (js O Z (jf [13,12,68,11,10,9,8,7,6,26,5,4,17,3,2,1,0] Z (jn (AWP.seq (ag (j2 O Z Z (jf [80,79,13,68,11,10,9,8,7,6,26,5,4,17,3,2,1,0] Z (ae O Z Z Z Z ((qe (xs := ([] : List Sq)) (ys := ([] : List Sq)) h1 h2).plain (u := eB true) (by simp)) (.cons (.c .nils) (.cons (.c .d) .nil)) Z Z Z Z Z (B0 := 82000) Z (j2 O Z Z (jf [83,13,68,11,10,9,8,7,6,26,5,4,17,3,2,1,0] Z (ah Z Z Z Z Z (js O Z (jf [84,83,68,11,10,9,8,7,6,26,5,4,17,3,2,1,0] Z ?_)))))))))))))
 refine ah Z Z Z Z Z (js O Z (ah Z Z Z Z Z (js O Z (aa (aX O Z Z Z Z Z) Z Z Z (jf [87,68,11,10,9,8,7,6,26,5,4,17,3,2,1,0] Z (jn (AWP.cond O Z Z (fun hc87 => ?_) (fun hc87 => ?_))))))))
 exact absurd (show false = true from hc87) (by decide)
 refine AWP.skip (ag (js O Z (aP (j2 O Z Z (jf [89,88,11,68,10,9,8,7,6,26,5,4,17,3,2,1,0] Z (ae O Z Z Z Z ((jJ (ts := ([] : List Sq)) (k := 1) h1 h2 (by decide) (by decide)).plain (u := eI 1) Z) (.cons (.c .nils) (.cons (.c .d) .nil)) Z Z Z Z Z (B0 := 91000) Z (js O Z (jf [11,68,10,9,8,7,6,26,5,4,17,3,2,1,0] Z (jn (AWP.seq (ag (j2 O Z Z (jn ?_)))))))))))))
 refine AWP.cond O Z Z (fun hc92 => ?_) (fun hc92 => ?_)
 exact absurd (of_decide_eq_true hc92) (by decide)
 refine AWP.skip (AWP.seq (ag (j3 O Z Z Z (jf [95,91,11,68,10,9,8,7,6,26,5,4,17,3,2,1,0] Z (jn (AWP.cond O Z Z (fun hc95 => ?_) (fun hc95 => ?_)))))))
 exact absurd hc95 (by simp)
 refine AWP.skip (ag (js O Z (jn (AWP.ret ?_))))
 refine ⟨.inl Z, _, Ent.refl, _, Z, ?_⟩
 rfl
theorem t4 {L : Nat} (h1 : 4096 ≤ L) (h2 : L ≤ 9223372036854775807) {p : Pm} (hz : dE 1048576 (Al.szs Tm.size p.pre + Al.szs Sm.size p.body + Al.szs Tm.size p.post) < 0) : MC Tryz.prog L 6 [aPm p] [] (Plain (eB true)) := by
 refine av ?_ Z
 have O := j6 (nt := 96) h1 h2
 refine MC.body O Tryz.func6 (by kernel_rfl) Z Z (Nat.le_of_ble_eq_true Z) (fun hF => ?_)
 refine ag (jx O Z Z Z Z Z Z Z Z (aq ?_))
 refine js O Z (aP (js O Z (aP (j2 O Z Z (ae O Z Z Z Z (c8 (p := p) (left := 1048576) h1 h2 (by decide) (by decide)) (ab Z) Z Z Z Z Z (B0 := 17000) Z (js O Z (jf [3,2,1,0] Z (jn (AWP.seq (ag (j2 O Z Z (jn (AWP.cond O Z Z (fun hc18 => ?_) (fun hc18 => ?_))))))))))))))
 refine ag (js O Z (jn (AWP.ret ?_)))
 refine ⟨.inl Z, _, Ent.refl, _, Z, ?_⟩
 rfl
 exact absurd (of_decide_eq_false hc18) (fun h => h hz)
theorem iY (b : List Sm) : bf nS b ≤ 5 * szs Sm.size b := by
 unfold bf szs
 induction b with
 | nil => simp
 | cons t r ih =>
  simp only [List.map_cons, List.sum_cons, List.length_cons] at ih ⊢
  have h1 : nS t = 5 + t.sum.xs.length + t.index.xs.length + bf nT t.facts := rfl
  have h2 : Sm.size t = t.sum.xs.length + t.index.xs.length + szs Tm.size t.facts := rfl
  have h3 := ep t.facts
  omega
theorem pL {L S : Nat} {b : List Sm} (h : D.fact L (eZ b)) (hl : szs Sm.size b ≤ S) : D.fact S (eZ b) := by
 unfold szs at hl
 simp only [D.fact, List.length_map, eA] at h ⊢
 refine ⟨by omega, fun s hs => ?_⟩
 have h1 := h.2 s hs
 have h2 := mf Sm.size hs
 have h3 : Sm.size s = s.sum.xs.length + s.index.xs.length + szs Tm.size s.facts := rfl
 exact ⟨h1.1, h1.2.1, h1.2.2.1, h1.2.2.2.1, jt h1.2.2.2.2.1 (by omega), h1.2.2.2.2.2.1, jt h1.2.2.2.2.2.2.1 (by omega), kz h1.2.2.2.2.2.2.2.1 (by omega), trivial⟩
theorem ki {L S : Nat} {p : Pm} (h : A.fact L (aPm p)) (hl : szs Tm.size p.pre + szs Sm.size p.body + szs Tm.size p.post ≤ S) : A.fact S (aPm p) :=
  ⟨kz h.1 (by omega), pL h.2.1 (by omega), kz h.2.2.1 (by omega), trivial⟩
theorem ej (p : Pm) : cC p = dJ p := by
 unfold cC dJ
 rw [sb]
 cases qb p.body <;> cases cB p.pre 6 <;> rfl
theorem oJ {p : Pm} (hp : cC p = true) : ∃ t, PtOk p t ∧ rC p.body = t.d := by
 have htb : qb p.body = true := by
  have h := hp
  rw [ej] at h
  unfold dJ at h; simp only [Bool.and_eq_true] at h; exact h.1
 obtain ⟨t, g1, g2, g3⟩ := mV htb
 have hc := mR (show bT (p.body.length + 1) p.body 0 = some (t, p.body.length) from g1)
 unfold cC gd at hp
 simp only [Bool.and_eq_true, decide_eq_true_eq] at hp
 obtain ⟨q1, ⟨⟨⟨q2, q3⟩, q4, q5⟩, q6⟩⟩ := hp
 refine ⟨t, ⟨by omega, g1, hc.2.1, by have := hc.2.2; omega, fun k hk => ?_, q1, q6⟩, g3⟩
 rw [aI hk]
 exact List.all_eq_true.1 q4 _ (List.getElem_mem hk)
theorem kp {p : Pm} {t : Tr} (ht : PtOk p t) : (p.pre :: (dF t).lp.map (·.s.facts)).length = aS p.body p.body.length + 1 := by
 have : (dF t).lp.length = aS p.body p.body.length := (jF ht.tree).1.len
 rw [List.length_cons, List.length_map, this]
theorem nI {p : Pm} {t : Tr} (ht : PtOk p t) (k : Int) : ga (-1) (((p.pre :: (dF t).lp.map (·.s.facts)).length : Int) - 2) k = mF p k := by
 rw [kp ht]
 unfold ga mF
 rw [show ((aS p.body p.body.length + 1 : Nat) : Int) - 2 = (aS p.body p.body.length : Int) - 1 by omega]
abbrev gI (p : Pm) (t : Tr) (n : Nat) : Gs := fI bH p t n g0
abbrev gS (p : Pm) (t : Tr) (n : Nat) : Gs := fI aW p t n g0
theorem uI {p : Pm} {t : Tr} {n : Nat} : GEq (gI p t n) (gS p t n) := mY
theorem so {L : Nat} (h1 : 4096 ≤ L) (h2 : L ≤ 1073741824) (hL : 600000000 ≤ L) {p : Pm} {t : Tr} (ht : PtOk p t) {n : Nat} (hn : n ≤ aS p.body p.body.length) : MC Tryz.prog L 58 [.c (.pt 0 0 0), eB false, eI ((n : Int) - 1), .c (.fb 59 [.pt 0 0 0])] (qi p t g0) (aZ (eB (!(gI p t n).bad)) (mE p t (gI p t n))) := by
 have hl := kp ht
 have hnl := cS (b := p.body) (k := p.body.length)
 have hlen := ht.len
 exact tJ h1 h2 (by omega) (by rw [nI ht]; unfold mF; rw [decide_eq_true (by omega), decide_eq_true (by omega)]; rfl)
  (sH h1 h2 ht hn lm (by omega))
theorem sN {L : Nat} (h1 : 4096 ≤ L) (h2 : L ≤ 1073741824) (hL : 600000000 ≤ L) {p : Pm} {t : Tr} (ht : PtOk p t) : MC Tryz.prog L 58 [.c (.pt 0 0 0), eB true, eI 0, .c (.fb 59 [.pt 0 0 0])] (qi p t g0) (aZ (eB (!(ja p t (aS p.body p.body.length + 1)).bad)) (mE p t (ja p t (aS p.body p.body.length + 1)))) := by
 have hl := kp ht
 have hnl := cS (b := p.body) (k := p.body.length)
 have hlen := ht.len
 have hst : ∀ i, (ja p t i).bad = true → ja p t (i + 1) = ja p t i := fun i h => by rw [ja, fI, lB h]
 have hok : ∀ i, i ≤ aS p.body p.body.length + 1 → GOk (i * 16252928) (ja p t i) := fun i hi => by
  induction i with
  | zero => rw [ja]; exact lm.le (Nat.zero_le _)
  | succ i ih =>
    rw [ja, fI]
    exact (iO ht.e ht.tree ht.nodes (by omega) (ih (by omega))).le (by omega)
 have := tK (p := p) (t := t) (k := 0) (al := ja p t) h1 h2 (by omega) hst Z (fun i hi hb => by
  rw [ja]
  exact sH h1 h2 ht (by omega) (hok i (by omega)) (by omega))
 rw [hl] at this
 exact this
theorem law1126 {L : Nat} (h1 : 4096 ≤ L) (h2 : L ≤ 9223372036854775807) {p : Pm} {k : Int} : MC Tryz.prog L 3 [aPm p, eI k] [] (Plain (eB true)) := by
 by_cases hz1 : dE 1048576 (szs Tm.size p.pre + szs Sm.size p.body + szs Tm.size p.post) < 0
 exact ua h1 h2 hz1
 have hz1' : 0 ≤ dE 1048576 (szs Tm.size p.pre + szs Sm.size p.body + szs Tm.size p.post) := by omega
 have g1 := fU hz1' (by decide)
 have k1 := ep p.pre
 have k2 := iY p.body
 have k3 := ep p.post
 have hcp : 1 + bf nT p.pre + bf nS p.body + bf nT p.post ≤ (1073741824 : Int) := by omega
 refine MC.facts ⟨_, _, Tryz.func3, by kernel_rfl, Z⟩ fun hF => ?_
 refine kj (L0 := 1073741824) Z ?_ ?_
 exact ⟨ki hF.1 (by omega), hF.2⟩
 cases hp : cC p with
 | false => exact nO (by decide) (Nat.le_refl _) (nj (by decide) (Nat.le_refl _) (fun h => by rw [hp] at h; cases h) (fun h => by rw [hp] at h; cases h)) (nM (by decide) (Nat.le_refl _) (l6 (by decide) (Nat.le_refl _) (by rw [← ej]; exact hp))) hz1' hcp
 | true =>
  obtain ⟨t, ht, htd⟩ := oJ hp
  have hv : dJ p = true := by rw [← ej]; exact hp
  have hlen := ht.len
  have hnl := cS (b := p.body) (k := p.body.length)
  have hl := kp ht
  cases hs : mF p k with
  | false => exact nO (by decide) (Nat.le_refl _) (nj (by decide) (Nat.le_refl _) (fun _ => by omega) (fun _ => hs)) (nM (by decide) (Nat.le_refl _) (jk (by decide) (Nat.le_refl _) hv htd ht (qM (by decide) (Nat.le_refl _) (by omega) (by rw [nI ht]; exact hs)))) hz1' hcp
  | true =>
   have hs' := hs
   unfold mF at hs'
   simp only [Bool.and_eq_true, decide_eq_true_eq] at hs'
   obtain ⟨n, rfl⟩ : ∃ n : Nat, k = (n : Int) - 1 := ⟨(k + 1).toNat, by omega⟩
   have hn : n ≤ aS p.body p.body.length := by omega
   have he := uI (p := p) (t := t) (n := n)
   have hP := so (L := 1073741824) (by decide) (Nat.le_refl _) (by decide) ht hn
   have hR := vK (L := 1073741824) (by decide) (Nat.le_refl _) ht hp hn (by decide) (rfl : fI aW p t n g0 = gS p t n)
   cases hb : (gI p t n).bad with
   | true =>
    rw [hb] at hP
    rw [show (fI aW p t n g0).bad = true from he.bad ▸ hb] at hR
    exact nO (by decide) (Nat.le_refl _) hR (nM (by decide) (Nat.le_refl _) (jk (by decide) (Nat.le_refl _) hv htd ht hP)) hz1' hcp
   | false =>
    have e : gI p t n = fI aW p t n g0 := he.eq hb
    rw [hb] at hP
    rw [← e, hb] at hR
    have hps : bf dg (gI p t n).paths ≤ 1000 * (gI p t n).paths.length := nK (sm (la := bH) ht hn (g := g0) (fun p hp => by cases hp))
    have hgo : (gI p t n).paths.length ≤ 201 := (iO (la := bH) (pre := p.pre) ht.e ht.tree ht.nodes hn lm).paths
    exact t9 (r := (gI p t n).paths) (by decide) (Nat.le_refl _) Z (by omega) hR (t2 (by decide) (Nat.le_refl _) (jj (by decide) (Nat.le_refl _) hv htd ht hP)) hz1' hcp
theorem law1128 {L : Nat} (h1 : 4096 ≤ L) (h2 : L ≤ 9223372036854775807) {p : Pm} {k : Int} : MC Tryz.prog L 5 [aPm p, eI k] [] (Plain (eB true)) := by
 by_cases hz1 : dE 1048576 (szs Tm.size p.pre + szs Sm.size p.body + szs Tm.size p.post) < 0
 exact t6 h1 h2 hz1
 have hz1' : 0 ≤ dE 1048576 (szs Tm.size p.pre + szs Sm.size p.body + szs Tm.size p.post) := by omega
 have g1 := fU hz1' (by decide)
 have k1 := ep p.pre
 have k2 := iY p.body
 have k3 := ep p.post
 have hcp : 1 + bf nT p.pre + bf nS p.body + bf nT p.post ≤ (1073741824 : Int) := by omega
 refine MC.facts ⟨_, _, Tryz.func5, by kernel_rfl, Z⟩ fun hF => ?_
 refine kj (L0 := 1073741824) Z ?_ ?_
 exact ⟨ki hF.1 (by omega), hF.2⟩
 cases hp : cC p with
 | false => exact l7 (by decide) (Nat.le_refl _) (ni (by decide) (Nat.le_refl _) (fun h => by rw [hp] at h; cases h) (fun h => by rw [hp] at h; cases h)) (nL (by decide) (Nat.le_refl _) (l6 (by decide) (Nat.le_refl _) (by rw [← ej]; exact hp))) hz1' hcp
 | true =>
  obtain ⟨t, ht, htd⟩ := oJ hp
  have hv : dJ p = true := by rw [← ej]; exact hp
  have hlen := ht.len
  have hnl := cS (b := p.body) (k := p.body.length)
  have hl := kp ht
  cases hs : mF p k with
  | false => exact l7 (by decide) (Nat.le_refl _) (ni (by decide) (Nat.le_refl _) (fun _ => by omega) (fun _ => hs)) (nL (by decide) (Nat.le_refl _) (jk (by decide) (Nat.le_refl _) hv htd ht (qM (by decide) (Nat.le_refl _) (by omega) (by rw [nI ht]; exact hs)))) hz1' hcp
  | true =>
   have hs' := hs
   unfold mF at hs'
   simp only [Bool.and_eq_true, decide_eq_true_eq] at hs'
   obtain ⟨n, rfl⟩ : ∃ n : Nat, k = (n : Int) - 1 := ⟨(k + 1).toNat, by omega⟩
   have hn : n ≤ aS p.body p.body.length := by omega
   have he := uI (p := p) (t := t) (n := n)
   have hP := so (L := 1073741824) (by decide) (Nat.le_refl _) (by decide) ht hn
   have hR := vJ (L := 1073741824) (by decide) (Nat.le_refl _) ht hp hn (by decide) (rfl : fI aW p t n g0 = gS p t n)
   cases hb : (gI p t n).bad with
   | true =>
    rw [hb] at hP
    rw [show (fI aW p t n g0).bad = true from he.bad ▸ hb] at hR
    exact l7 (by decide) (Nat.le_refl _) hR (nL (by decide) (Nat.le_refl _) (jk (by decide) (Nat.le_refl _) hv htd ht hP)) hz1' hcp
   | false =>
    have e : gI p t n = fI aW p t n g0 := he.eq hb
    rw [hb] at hP
    rw [← e, hb] at hR
    have hgo : (gI p t n).conds.length ≤ 0 + 16252928 := (iO (la := bH) (pre := p.pre) ht.e ht.tree ht.nodes hn lm).conds
    cases hc : de (gI p t n).conds with
    | true =>
     rw [hc] at hR
     exact t5 (r := (gI p t n).conds) (by decide) (Nat.le_refl _) Z (by have := lO hc; omega) hR (tY (by decide) (Nat.le_refl _) (jj (by decide) (Nat.le_refl _) hv htd ht hP) (by omega) hc) hz1' hcp
    | false =>
     rw [hc] at hR
     exact l7 (by decide) (Nat.le_refl _) hR (tZ (by decide) (Nat.le_refl _) (jj (by decide) (Nat.le_refl _) hv htd ht hP) (by omega) hc) hz1' hcp
theorem law1127 {L : Nat} (h1 : 4096 ≤ L) (h2 : L ≤ 9223372036854775807) {p : Pm} : MC Tryz.prog L 4 [aPm p] [] (Plain (eB true)) := by
 by_cases hz1 : dE 1048576 (szs Tm.size p.pre + szs Sm.size p.body + szs Tm.size p.post) < 0
 exact t8 h1 h2 hz1
 have hz1' : 0 ≤ dE 1048576 (szs Tm.size p.pre + szs Sm.size p.body + szs Tm.size p.post) := by omega
 have g1 := fU hz1' (by decide)
 have k1 := ep p.pre
 have k2 := iY p.body
 have k3 := ep p.post
 have hcp : 1 + bf nT p.pre + bf nS p.body + bf nT p.post ≤ (1073741824 : Int) := by omega
 refine MC.facts ⟨_, _, Tryz.func4, by kernel_rfl, Z⟩ fun hF => ?_
 refine kj (L0 := 1073741824) Z ?_ ?_
 exact ⟨ki hF.1 (by omega), trivial⟩
 cases hp : cC p with
 | false => exact qT (by decide) (Nat.le_refl _) (ro (by decide) (Nat.le_refl _) hp) (qR (by decide) (Nat.le_refl _) (l6 (by decide) (Nat.le_refl _) (by rw [← ej]; exact hp))) hz1' hcp
 | true =>
  obtain ⟨t, ht, htd⟩ := oJ hp
  have hv : dJ p = true := by rw [← ej]; exact hp
  have hlen := ht.len
  have hnl := cS (b := p.body) (k := p.body.length)
  obtain ⟨he, hpl⟩ := qy (p := p) (t := t) (aS p.body p.body.length + 1)
  have hP := sN (L := 1073741824) (by decide) (Nat.le_refl _) (by decide) ht
  have hA := sJ (L := 1073741824) (by decide) (Nat.le_refl _) ht (by decide)
  have hps := qx ht (Nat.le_refl _)
  have hgo := (nU ht (aS p.body p.body.length + 1) (Nat.le_refl _)).1
  generalize ja p t (aS p.body p.body.length + 1) = x at he hpl hP hps
  generalize eF p t (aS p.body p.body.length + 1) = y at he hA hgo
  cases hb : x.bad with
  | true =>
   rw [hb] at hP
   rw [show y.bad = true from he.bad ▸ hb] at hA
   exact qT (by decide) (Nat.le_refl _) (sK (by decide) (Nat.le_refl _) hp hA) (qR (by decide) (Nat.le_refl _) (jk (by decide) (Nat.le_refl _) hv htd ht hP)) hz1' hcp
  | false =>
   have e := he.eq hb
   subst e
   rw [hb] at hP hA
   exact t7 (r := x.paths) (by decide) (Nat.le_refl _) Z (by have := hpl hb; have := nK hps; omega) (sK (by decide) (Nat.le_refl _) hp hA) (t0 (by decide) (Nat.le_refl _) (jj (by decide) (Nat.le_refl _) hv htd ht hP)) hz1' hcp
theorem law1129 {L : Nat} (h1 : 4096 ≤ L) (h2 : L ≤ 9223372036854775807) {p : Pm} : MC Tryz.prog L 6 [aPm p] [] (Plain (eB true)) := by
 by_cases hz1 : dE 1048576 (szs Tm.size p.pre + szs Sm.size p.body + szs Tm.size p.post) < 0
 exact t4 h1 h2 hz1
 have hz1' : 0 ≤ dE 1048576 (szs Tm.size p.pre + szs Sm.size p.body + szs Tm.size p.post) := by omega
 have g1 := fU hz1' (by decide)
 have k1 := ep p.pre
 have k2 := iY p.body
 have k3 := ep p.post
 have hcp : 1 + bf nT p.pre + bf nS p.body + bf nT p.post ≤ (1073741824 : Int) := by omega
 refine MC.facts ⟨_, _, Tryz.func6, by kernel_rfl, Z⟩ fun hF => ?_
 refine kj (L0 := 1073741824) Z ?_ ?_
 exact ⟨ki hF.1 (by omega), trivial⟩
 cases hp : cC p with
 | false => exact nN (by decide) (Nat.le_refl _) (rn (by decide) (Nat.le_refl _) hp) (qQ (by decide) (Nat.le_refl _) (l6 (by decide) (Nat.le_refl _) (by rw [← ej]; exact hp))) hz1' hcp
 | true =>
  obtain ⟨t, ht, htd⟩ := oJ hp
  have hv : dJ p = true := by rw [← ej]; exact hp
  have hlen := ht.len
  have hnl := cS (b := p.body) (k := p.body.length)
  obtain ⟨he, hpl⟩ := qy (p := p) (t := t) (aS p.body p.body.length + 1)
  have hP := sN (L := 1073741824) (by decide) (Nat.le_refl _) (by decide) ht
  have hA := sJ (L := 1073741824) (by decide) (Nat.le_refl _) ht (by decide)
  have hps := qx ht (Nat.le_refl _)
  have hgo := (nU ht (aS p.body p.body.length + 1) (Nat.le_refl _)).1
  generalize ja p t (aS p.body p.body.length + 1) = x at he hpl hP hps
  generalize eF p t (aS p.body p.body.length + 1) = y at he hA hgo
  cases hb : x.bad with
  | true =>
   rw [hb] at hP
   rw [show y.bad = true from he.bad ▸ hb] at hA
   exact nN (by decide) (Nat.le_refl _) (tX (by decide) (Nat.le_refl _) hp hA) (qQ (by decide) (Nat.le_refl _) (jk (by decide) (Nat.le_refl _) hv htd ht hP)) hz1' hcp
  | false =>
   have e := he.eq hb
   subst e
   rw [hb] at hP hA
   have hgl : x.conds.length ≤ 600000000 := by
    have : (aS p.body p.body.length + 1) * 16252928 ≤ 31 * 16252928 := Nat.mul_le_mul_right _ (by omega)
    omega
   cases hc : de x.conds with
   | true => exact t3 (r := x.conds) (by decide) (Nat.le_refl _) Z (by have := lO hc; omega) (tV (by decide) (Nat.le_refl _) hp hA hc) (tT (by decide) (Nat.le_refl _) (jj (by decide) (Nat.le_refl _) hv htd ht hP) (by omega) hc) hz1' hcp
   | false => exact nN (by decide) (Nat.le_refl _) (tW (by decide) (Nat.le_refl _) hp hA hc) (tU (by decide) (Nat.le_refl _) (jj (by decide) (Nat.le_refl _) hv htd ht hP) (by omega) hc) hz1' hcp
end Go.Al
/- What the laws of programs share: the types of their arguments. -/
namespace Go.Proofs.YtbonielldgjhiaaGreat
open Go.ChangeShapes Go.WideShapes Go.ChangeAt Go.RowKit Go.Al
abbrev sO : List Ty := [.int .i64, .int .i64, .int .i64, .int .i64, .slc qg, .int .i64, .slc qg, .slc oD]
theorem vm : TyOf Tryz.prog 94 sO := .struct Tryz.underlying94 (show FieldsAre Tryz.prog _ (qg ++ (qg ++ (qg ++ (oD ++ (oD ++ ([.slc oD] ++ [])))))) 0 from
  .cons Z (by kernel_rfl) ul (.cons Z (by kernel_rfl) ul (.cons Z (by kernel_rfl) ul (.cons Z (by kernel_rfl) sR (.cons Z (by kernel_rfl) sR (.cons Z (by kernel_rfl) sS .nil)))))) (by kernel_rfl)
theorem wL : TyOf Tryz.prog 23 [.slc sO] := .slc Tryz.underlying23 vm (by kernel_rfl) (by decide)
theorem of25 : TyOf Tryz.prog 25 [.slc oD, .slc sO, .slc oD] := .struct Tryz.underlying25 (show FieldsAre Tryz.prog _ ([.slc oD] ++ ([.slc sO] ++ ([.slc oD] ++ []))) 0 from
  .cons Z (by kernel_rfl) sS (.cons Z (by kernel_rfl) wL (.cons Z (by kernel_rfl) sS .nil))) (by kernel_rfl)
theorem pK {e : List D} (h : FitsL sO e) : ∃ s : Sm, e = s.cells := by
 cases h with
 | cons a1 h =>
  cases h with
  | cons a2 h =>
   cases h with
   | cons a3 h =>
    cases h with
    | cons a4 h =>
     cases h with
     | cons a5 h =>
      cases h with
      | cons a6 h =>
       cases h with
       | cons a7 h =>
        cases h with
        | cons a8 h =>
         cases h
         obtain ⟨n1, rfl⟩ := eP a1
         obtain ⟨n2, rfl⟩ := eP a2
         obtain ⟨n3, rfl⟩ := eP a3
         obtain ⟨n4, rfl⟩ := eP a4
         obtain ⟨x5, rfl⟩ := jr a5
         obtain ⟨n6, rfl⟩ := eP a6
         obtain ⟨x7, rfl⟩ := jr a7
         obtain ⟨x8, rfl⟩ := iv a8
         exact ⟨⟨n1, n2, n3, ⟨n4, x5⟩, ⟨n6, x7⟩, x8⟩, Z⟩
theorem od {d : D} (h : Fits (.slc sO) d) : ∃ b, d = eZ b := by
 cases h with
 | slc h =>
  obtain ⟨xs, rfl⟩ := iV (g := Sm.cells) (fun e he => pK he) h
  exact ⟨xs, Z⟩
theorem fits_prog {e : List D} (h : FitsL [.slc oD, .slc sO, .slc oD] e) : ∃ p : Pm, e = p.data := by
 cases h with
 | cons a1 h =>
  cases h with
  | cons a2 h =>
   cases h with
   | cons a3 h =>
    cases h
    obtain ⟨x1, rfl⟩ := iv a1
    obtain ⟨x2, rfl⟩ := od a2
    obtain ⟨x3, rfl⟩ := iv a3
    exact ⟨⟨x1, x2, x3⟩, Z⟩
end Go.Proofs.YtbonielldgjhiaaGreat
