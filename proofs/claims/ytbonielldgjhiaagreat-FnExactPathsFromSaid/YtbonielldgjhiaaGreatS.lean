/- Both gather the same; the laws, walked. -/
import Derived.Test.YtbonielldgjhiaaGreatR
set_option linter.unusedVariables false
set_option linter.unusedSimpArgs false
set_option maxRecDepth 10000
set_option maxHeartbeats 4000000
open Go.Proofs
namespace Go.Al
variable {L : Nat} (h1 : 4096 ≤ L) (h2 : L ≤ 1073741824)
/-! The program gathers over all starts what the reference gathers start by start. -/
theorem ph {t : Tm} : aY t = if (g9 [⟨7, []⟩, t] [1, -1]).ok = true then (g9 [⟨7, []⟩, t] [1, -1], true) else (⟨0, []⟩, false) := by
 unfold aY pr qk
 have h1 : (1 * (⟨7, []⟩ : Tm).c + -1 * t.c) = cx Tm.c [⟨7, []⟩, t] [1, -1] := by
  simp only [cx] <;> omega
 have h2 : iG ⟨7, []⟩ 1 t (-1) = cp [⟨7, []⟩, t] [1, -1] := by
  unfold iG cp
  apply List.map_congr_left
  intro k _
  simp only [cx, nF] <;> omega
 rw [h1, h2]
theorem qs : LaEq bJ aY := by
 refine ⟨fun t _ => ?_, fun t _ h => ?_⟩
 rw [ph]; unfold bJ; dsimp only
 cases h : (g9 [⟨7, []⟩, t] [1, -1]).ok <;> simp
 have h : (g9 [⟨7, []⟩, t] [1, -1]).ok = true := h
 rw [ph, if_pos h]; rfl
structure Sim (P : List Pth) (C : List Sq) (g h : Gs) : Prop where
  ok : g.bad = false → h.bad = false ∧ g.paths = P ++ h.paths ∧ g.conds = C ++ h.conds ∧ g.paths.length ≤ 200
  bad : g.bad = true → h.bad = true ∨ 200 < P.length + h.paths.length
theorem Sim.flag {P C g h} (s : Sim P C g h) {b : Bool} : Sim P C (g.flag b) (h.flag b) := by
 refine ⟨fun e => ?_, fun e => ?_⟩
 simp only [Gs.flag, Bool.or_eq_false_iff] at e ⊢
 have := s.ok e.1
 exact ⟨⟨this.1, e.2⟩, this.2⟩
 simp only [Gs.flag, Bool.or_eq_true] at e ⊢
 rcases e with e | e
 exact (s.bad e).imp .inl id
 exact .inl (.inr e)
theorem Sim.goal {P C g h} (s : Sim P C g h) {w : Pw} {t : Tm} : Sim P C (g.goal w t) (h.goal w t) :=
  ⟨fun e => by
 have := s.ok e
 exact ⟨this.1, this.2.1, by simp only [Gs.goal, this.2.2.1, List.append_assoc], this.2.2.2⟩, fun e => s.bad e⟩
theorem Sim.path {P C g h} (s : Sim P C g h) {frm : Int} {w : Pw} {to : Int} : Sim P C (ft frm w to g) (ft frm w to h) := by
 refine ⟨fun e => ?_, fun e => ?_⟩
 simp only [ft, Bool.or_eq_false_iff, decide_eq_false_iff_not] at e ⊢
 have := s.ok e.1
 have hl := congrArg List.length this.2.1
 rw [List.length_append] at hl
 refine ⟨⟨this.1, by omega⟩, by rw [this.2.1, List.append_assoc], this.2.2.1, ?_⟩
 rw [List.length_append, List.length_singleton]; omega
 simp only [ft, Bool.or_eq_true, decide_eq_true_eq] at e ⊢
 rw [List.length_append, List.length_singleton]
 cases hb : g.bad with
 | true => rcases s.bad hb with h1 | h1
  · exact .inl (.inl h1)
  · exact .inr (by omega)
 | false =>
  have := s.ok hb
  have hl := congrArg List.length this.2.1
  rw [List.length_append] at hl
  rcases e with e | e
  rw [hb] at e; cases e
  exact .inr (by omega)
theorem ru {P C} {w : Pw} : ∀ {fs : List Tm} {g h : Gs}, Sim P C g h → Sim P C (fs.foldl (bn w) g) (fs.foldl (bn w) h)
 | [], g, h, s => s
 | t :: fs, g, h, s => ru (fs := fs) (s.flag.goal : Sim P C (bn w g t) (bn w h t))
theorem Sim.end {P C g h} (s : Sim P C g h) {frm : Int} {w : Pw} {to : Int} {fs : List Tm} : Sim P C (cI frm w to fs g) (cI frm w to fs h) := s.fold.path
theorem Sim.cell {la : cv} {P C g h} (s : Sim P C g h) {w : Pw} {t : Tm} : Sim P C (bW la w t g) (bW la w t h) := s.flag.goal.flag.goal
theorem Sim.leaf {la : cv} {P C g h} (s : Sim P C g h) {m : Sm} {w : Pw} : (bE la m w g).1 = (bE la m w h).1 ∧ Sim P C (bE la m w g).2 (bE la m w h).2 := by
 unfold bE
 split
 exact ⟨Z, s.flag⟩
 split
 split
 exact ⟨Z, s.cell.flag⟩
 exact ⟨Z, s.cell⟩
 split
 exact ⟨Z, s.cell⟩
 split
 exact ⟨Z, s⟩
 split
 exact ⟨Z, s.flag.goal.flag⟩
 exact ⟨Z, s⟩
/-- What has been gathered stays. -/
def Grow (g h : Gs) : Prop := g.paths.length ≤ h.paths.length ∧ (g.bad = true → h.bad = true)
theorem Grow.refl {g : Gs} : Grow g g := ⟨Nat.le_refl _, id⟩
theorem Grow.trans {g h k : Gs} (a : Grow g h) (b : Grow h k) : Grow g k := ⟨Nat.le_trans a.1 b.1, fun e => b.2 (a.2 e)⟩
theorem Grow.flag {g : Gs} {b : Bool} : Grow g (g.flag b) := ⟨Nat.le_refl _, fun e => by simp [Gs.flag, e]⟩
theorem Grow.goal {g : Gs} {w : Pw} {t : Tm} : Grow g (g.goal w t) := ⟨Nat.le_refl _, id⟩
theorem Grow.end {g : Gs} {frm : Int} {w : Pw} {to : Int} {fs : List Tm} : Grow g (cI frm w to fs g) :=
  ⟨by
    have h3 := congrArg List.length (dM (fs := fs) (w := w) (g := g))
    simp only [cI, ft, List.length_append, List.length_singleton]; omega, fun e => r6 e⟩
theorem Grow.leaf {la : cv} {g : Gs} {m : Sm} {w : Pw} : Grow g (bE la m w g).2 := by
 unfold bE
 split
 exact .flag
 split
 split
 exact ((Grow.flag.trans .goal).trans .flag).trans (Grow.goal.trans .flag)
 exact ((Grow.flag.trans .goal).trans .flag).trans .goal
 split
 exact ((Grow.flag.trans .goal).trans .flag).trans .goal
 split
 exact .refl
 split
 exact (Grow.flag.trans .goal).trans .flag
 exact .refl
theorem gm {la : cv} {E : Pe} {frm : Int} : ∀ {n : Nat} {r : List Fr} {w : Pw} {g : Gs}, Grow g (dA la E frm n r w g)
 | 0, r, w, g => .refl
 | n + 1, r, w, g => by
  cases hb : g.bad with
  | true => rw [cg hb]; exact .refl
  | false =>
   match r with
   | [] => rw [ep hb]; exact .end
   | .lp k :: r => rw [fL hb]; exact .end
   | .st (.node s a []) :: r => rw [dE hb]; exact Grow.leaf.trans gm
   | .st (.node s a [x]) :: r => rw [fK hb]; exact .end
   | .st (.node s a [x, y]) :: r =>
    by_cases hk : s.kind = 1
    rw [eo hb hk]; exact gm
    rw [fM hb hk, cV]
    exact ((Grow.flag.trans .flag).trans .flag).trans (gm.trans gm)
   | .st (.node s a (x :: y :: z :: ks)) :: r => rw [fv hb]; exact Grow.leaf.trans gm
theorem Sim.grow {P C g h k} (s : Sim P C g h) (hg : g.bad = true) (a : Grow h k) : Sim P C g k :=
  ⟨fun e => absurd (hg.symm.trans e) (by decide), fun _ => (s.bad hg).imp a.2 (fun h => by have := a.1; omega)⟩
theorem fe {la : cv} {E : Pe} {frm : Int} {P C} : ∀ {n : Nat} {r : List Fr} {w : Pw} {g h : Gs}, Sim P C g h → Sim P C (dA la E frm n r w g) (dA la E frm n r w h)
 | 0, r, w, g, h, s => s
 | n + 1, r, w, g, h, s => by
  cases hb : g.bad with
  | true => rw [cg hb]; exact s.grow hb gm
  | false =>
   have hc := (s.ok hb).1
   match r with
   | [] => rw [ep hb, ep hc]; exact s.end
   | .lp k :: r => rw [fL hb, fL hc]; exact s.end
   | .st (.node m a []) :: r =>
    rw [dE hb, dE hc, (s.leaf (la := la) (m := m) (w := w)).1]
    exact fe s.leaf.2
   | .st (.node m a [x]) :: r => rw [fK hb, fK hc]; exact s.end
   | .st (.node m a [x, y]) :: r =>
    by_cases hk : m.kind = 1
    rw [eo hb hk, eo hc hk]; exact fe s
    rw [fM hb hk, fM hc hk]
    exact fe (fe s.flag.flag.flag)
   | .st (.node m a (x :: y :: z :: ks)) :: r =>
    rw [fv hb, fv hc, (s.leaf (la := la) (m := m) (w := w)).1]
    exact fe s.leaf.2
theorem pE {la : cv} {E : Pe} {b : List Sm} {t : Tr} {pre : List Tm} {P C} {n : Nat} {g h : Gs} (s : Sim P C g h) : Sim P C (bR la E b t pre n g) (bR la E b t pre n h) := by
 cases n with
 | zero => rw [bR, bR]; exact fe s
 | succ n => rw [bR, bR, cV, cV, aT, aT]; exact fe (fe s.flag.flag.flag)
theorem m3 {E : Pe} {b : List Sm} {t : Tr} {pre : List Tm} {n : Nat} {g : Gs} : GEq (bR bJ E b t pre n g) (bR aY E b t pre n g) := by
 cases n with
 | zero => rw [bR, bR]; exact gh qs .refl
 | succ n => rw [bR, bR, cV, cV]; exact gh qs (gh qs .refl)
theorem lD {la : cv} {E : Pe} {b : List Sm} {t : Tr} {pre : List Tm} {n : Nat} {g : Gs} (h : g.bad = true) : bR la E b t pre n g = g := by
 cases n with
 | zero => rw [bR]; exact cg h
 | succ n => rw [bR, cV, aT, iX h, iX h, iX h, cg h, cg h]
/-- All starts, gathered by the program. -/
def jc (p : Pm) (t : Tr) : Nat → Gs
  | 0 => g0
  | i + 1 => fJ bJ p t i (jc p t i)
/-- The reference's way: what is bad stays so. -/
def eG (p : Pm) (t : Tr) : Nat → Gs
  | 0 => g0
  | i + 1 => if (eG p t i).bad = true then eG p t i else ⟨(eG p t i).paths ++ (fJ aY p t i g0).paths, (eG p t i).conds ++ (fJ aY p t i g0).conds, (fJ aY p t i g0).bad || decide (200 < ((eG p t i).paths ++ (fJ aY p t i g0).paths).length)⟩
theorem qz {p : Pm} {t : Tr} : ∀ n, GEq (jc p t n) (eG p t n) ∧ ((jc p t n).bad = false → (jc p t n).paths.length ≤ 200)
 | 0 => ⟨by rw [jc, eG]; exact .refl, fun _ => by rw [jc]; exact Nat.zero_le _⟩
 | n + 1 => by
  obtain ⟨e, hl⟩ := qz (p := p) (t := t) n
  rw [jc, eG]
  cases hb : (jc p t n).bad with
  | true =>
   rw [if_pos (by rw [← e.bad]; exact hb), fJ, lD hb]
   exact ⟨e, fun h => by rw [hb] at h; cases h⟩
  | false =>
   have ha := e.eq hb
   rw [← ha, if_neg (by rw [hb]; decide)]
   have s0 : Sim (jc p t n).paths (jc p t n).conds (jc p t n) g0 := ⟨fun _ => ⟨rfl, by simp [g0], by simp [g0], hl hb⟩, fun h => absurd (hb.symm.trans h) (by decide)⟩
   have s := pE (la := bJ) (E := lX p.body p.post) (b := p.body) (t := t) (pre := p.pre) (n := n) s0
   have q := m3 (E := lX p.body p.post) (b := p.body) (t := t) (pre := p.pre) (n := n) (g := g0)
   unfold fJ
   generalize bR bJ (lX p.body p.post) p.body t p.pre n (jc p t n) = x at s ⊢
   generalize bR bJ (lX p.body p.post) p.body t p.pre n g0 = y at s q
   generalize bR aY (lX p.body p.post) p.body t p.pre n g0 = z at q ⊢
   refine ⟨?_, fun h => (s.ok h).2.2.2⟩
   cases hc : x.bad with
   | false =>
    obtain ⟨a1, a2, a3, a4⟩ := s.ok hc
    have a5 := q.eq a1
    subst a5
    rw [← a2, ← a3, a1, decide_eq_false (show ¬ 200 < x.paths.length by omega)]
    have e : (⟨x.paths, x.conds, false || false⟩ : Gs) = x := by cases x; simp only at hc; subst hc; rfl
    rw [e]
    exact .refl
   | true =>
    refine .of hc ?_
    have : z.bad = true ∨ 200 < ((jc p t n).paths ++ z.paths).length := by
     cases hd : y.bad with
     | true => exact .inl (by rw [← q.bad]; exact hd)
     | false =>
      have a6 := q.eq hd
      subst a6
      rcases s.bad hc with h | h
      exact .inl h
      exact .inr (by rw [List.length_append]; exact h)
    rcases this with h | h
    simp [h]
    simp only [decide_eq_true h, Bool.or_true]
/-! The program follows the paths of a start, for every start. -/
theorem mZ {b : List Sm} {t : Tr} (hT : bL b 0 = some (t, b.length)) : (∃ fl i, Pl b fl i [.st t]) ∧ ∀ n, n < aU b b.length → (∃ fl i, Pl b fl i [.st ((aS b t []).getD n default).x, .lp n]) ∧ (∃ fl i, Pl b fl i ((aS b t []).getD n default).r) := by
 have hB := dV hT (nx := -1) (f := []) (r := []) .nil
 refine ⟨⟨_, _, hB.pl⟩, fun n hn => ?_⟩
 obtain ⟨hq, hqa⟩ := gL hT hn
 obtain ⟨i, _, h1, h2, h3, h4⟩ := hB.all _ hq
 rw [hqa] at h3
 exact ⟨⟨_, _, h3⟩, ⟨_, _, h4⟩⟩
theorem iQ {la : cv} {E : Pe} {b : List Sm} {t : Tr} {pre : List Tm} (hE : EOk E b) (hT : bL b 0 = some (t, b.length)) (hnd : t.nodes ≤ 30) {n c : Nat} (hn : n ≤ aU b b.length) {g : Gs} (hg : GOk c g) : GOk (c + 16252928) (bR la E b t pre n g) := by
 obtain ⟨⟨fl, i, p0⟩, hl⟩ := mZ hT
 have e0 : aD [] = 0 := rfl
 have h30 := ma
 cases n with
 | zero =>
  rw [bR]
  have hm := bT (m := aD [.st t]) (n := 30) (by show t.nodes + 0 ≤ 30; omega)
  exact (eM hE p0 hg).le (by omega)
 | succ n =>
  obtain ⟨⟨f1, i1, p1⟩, ⟨f2, i2, p2⟩⟩ := hl n (by omega)
  have hsz := (pq hT (r := [])).size _ (gL hT (n := n) (by omega)).1
  have hm1 := bT (m := aD [.st ((aS b t []).getD n default).x, .lp n]) (n := 30) (by show ((aS b t []).getD n default).x.nodes + 0 ≤ 30; omega)
  have hm2 := bT (m := aD ((aS b t []).getD n default).r) (n := 30) (by omega)
  rw [bR, cV, aT]
  exact (eM hE p2 (eM hE p1 hg.flag.flag.flag)).le (by omega)
theorem sI {L : Nat} (h1 : 4096 ≤ L) (h2 : L ≤ 1073741824) {p : Pm} {t : Tr} (ht : PtOk p t) {n c : Nat} (hn : n ≤ aU p.body p.body.length) {g : Gs} (hg : GOk c g) (hL : c + 16252928 ≤ L) : MC Tryz.prog L 59 [.c (.pt 0 0 0), eI ((n : Int) - 1)] (qj p t g) (bb (.tup []) (mG p t (fJ bJ p t n g))) := by
 have hE := ht.e
 have hbl := ht.len
 have hT := ht.tree
 have hnd := ht.nodes
 have hP := vm (pre := p.pre) (post := p.post) hT
 have hpre := (eP ht.pre).2
 obtain ⟨hp0, hl⟩ := mZ hT
 have e0 : aD [] = 0 := rfl
 have h30 := ma
 have hlen : (dG t).lp.length = aU p.body p.body.length := (jI hT).1.len
 have hnl := cU (b := p.body) (k := p.body.length)
 rw [fJ]
 cases n with
 | zero =>
  have hm := bT (m := aD [.st t]) (n := 30) (by show t.nodes + 0 ≤ 30; omega)
  rw [bR]
  exact tJ h1 h2 (f := p.pre) (t := t) Z (by simp) (by simp; omega) Z (by omega) Z
   (qu h1 h2 hE (by omega) hP 31 hp0 (by show t.nodes + 0 < 31; omega) (lj (by omega)) hg (by omega))
 | succ n =>
  obtain ⟨hp1, hp2⟩ := hl n (by omega)
  obtain ⟨hq, hqa⟩ := gL hT (n := n) (by omega)
  have hat := (pq hT (r := [])).at_ _ hq
  have hsz := (pq hT (r := [])).size _ hq
  have hst := ht.st _ (show ((aS p.body t []).getD n default).a < p.body.length by omega)
  rw [← hat.2.2.2] at hst
  have htm := gG hst
  have hf := ej hst
  have hqe : (dG t).lp.getD n default = (aS p.body t []).getD n default := by rw [(jI hT).2]
  obtain ⟨q, hqL⟩ : ∃ q, (aS p.body t []).getD n default = q := ⟨_, rfl⟩
  rw [hqL] at hp1 hp2 hq hqa hat hsz hst htm hf hqe
  have hsf : (p.pre :: (dG t).lp.map (·.s.facts)).getD (n + 1) default = q.s.facts := by
   rw [List.getD_cons_succ, ← hqe]
   simp [List.getD_eq_getElem?_getD, show n < (dG t).lp.length by omega]
  have hm1 := bT (m := aD [.st q.x, .lp n]) (n := 30) (by show q.x.nodes + 0 ≤ 30; omega)
  have hm2 := bT (m := aD q.r) (n := 30) (by omega)
  have e : ((n + 1 : Nat) : Int) - 1 = (n : Nat) := by omega
  have hw := lj (n := 32) (fs := q.s.facts) (by have := hf.2; omega)
  have h8 : lW 4 = (w0 q.s.facts).vars := rfl
  rw [bR, e, hqL, h8]
  generalize hw0 : w0 q.s.facts = w at hw ⊢
  obtain ⟨f1, i1, p1⟩ := hp1
  have hg2 : GOk c (bU w (aH q.s.sum w.vars).1 (aT w q.s.sum g)) := hg.flag.flag.flag
  have hg3 := eM hE (la := bJ) (frm := (n : Nat)) (n := 31) (w := w.fact (aH q.s.sum w.vars).1) p1 hg2
  exact tI h1 h2 (Y := dA bJ (lX p.body p.post) (n : Nat) 31 [.st q.x, .lp n]) (N := dA bJ (lX p.body p.post) (n : Nat) 31 q.r) hw0 (by omega) hqe (by simp; omega) (by simp; omega) hsf (by have := hf.2; omega) htm.1 (by omega) (fun u g h => cg h) (fun u g h => cg h)
   (fun _ => qu h1 h2 hE (by omega) hP 31 ⟨f1, i1, p1⟩ (by show q.x.nodes + 0 < 31; omega) hw.fact hg2 (by omega))
   (fun _ => qu h1 h2 hE (by omega) hP 31 hp2 (by omega) hw.fact hg3 (by omega))
theorem nW {p : Pm} {t : Tr} (ht : PtOk p t) : ∀ n, n ≤ aU p.body p.body.length + 1 → (eG p t n).conds.length ≤ n * 16252928 ∧ ((eG p t n).bad = false → (eG p t n).paths.length ≤ 200) ∧ (n < aU p.body p.body.length + 1 → (fJ aY p t n g0).paths.length ≤ 201 ∧ (fJ aY p t n g0).conds.length ≤ 16252928)
 | n, hn => by
  have key : ∀ m, m ≤ aU p.body p.body.length → (fJ aY p t m g0).paths.length ≤ 201 ∧ (fJ aY p t m g0).conds.length ≤ 16252928 := fun m hm => by
   have h := iQ (la := aY) (pre := p.pre) ht.e ht.tree ht.nodes hm lq
   exact ⟨h.paths, by have := h.conds; rw [Nat.zero_add] at this; exact this⟩
  refine ⟨?_, ?_, fun h => key n (by omega)⟩
  induction n with
  | zero => exact Nat.zero_le _
  | succ n ih =>
   have := ih (by omega)
   have k := (key n (by omega)).2
   rw [eG]; split
   exact Nat.le_trans this (Nat.mul_le_mul_right _ (Nat.le_succ n))
   simp only [List.length_append]; rw [Nat.add_mul, Nat.one_mul]; exact Nat.add_le_add this k
  cases n with
  | zero => intro _; exact Nat.zero_le _
  | succ n =>
   rw [eG]; split
   rename_i h; intro h2; rw [h] at h2; cases h2
   intro h2
   simp only [Bool.or_eq_false_iff, decide_eq_false_iff_not] at h2
   exact Nat.le_of_not_lt h2.2
theorem sK {p : Pm} {t : Tr} (ht : PtOk p t) (hL : 600000000 ≤ L) : MQ h1 h2 41 [ptr p.data] [] (Plain (.tup [.c (.d (f8 (if (eG p t (aU p.body p.body.length + 1)).bad then [] else (eG p t (aU p.body p.body.length + 1)).paths))), .c (.d (e7 (if (eG p t (aU p.body p.body.length + 1)).bad then [] else (eG p t (aU p.body p.body.length + 1)).conds))), eB (!(eG p t (aU p.body p.body.length + 1)).bad)])) := by
 refine MC.data (jB 44 h1 h2 Tryz.func41 Z Z Z fun O hF => ?_)
 have hlen := ht.len
 have hnl := cU (b := p.body) (k := p.body.length)
 have hwl := eh (b := p.body) (i := p.body.length)
 refine ag (j3 O Z Z Z (aR (AOps.heap (bG O Z Z Z) Z (au ?_))))
 refine js O Z (aR (AOps.heap (bG O Z Z Z) Z (au ?_)))
 refine js O Z (jn (AWP.seq (ag (js O Z (jn (AWP.block (az (X := Nat) (fun i => ⟨[(0, ptr p.data), (5, .c (.rs 905 0 (eG p t i).paths.length)), (6, .c (.rs 906 0 (eG p t i).conds.length)), (7, eI ((i : Int) - 1))], [(905, bB (eG p t i).paths), (906, bC (eG p t i).conds)]⟩) (fun i => i ≤ (aU p.body p.body.length + 1) ∧ (eG p t i).bad = false) (fun i => (aU p.body p.body.length + 1) - i) 0 (((cr 9 Z).trans (cr 10 Z)).trans (((af 9 905 Z Z).trans (af 10 906 Z Z)).trans (Ent.to ⟨Z, Z, Z, Z, trivial⟩ Z))) ?_ (fun i hi => ?_))))))))
 exact ⟨Nat.zero_le _, Z⟩
 obtain ⟨hi1, hi2⟩ := hi
 obtain ⟨k1, k2, k3⟩ := nW ht i hi1
 have k4 := k2 hi2
 refine AWP.seq (ag (j2 O Z Z (ao O Z Z Z Z (oX (pre := p.pre) (post := p.post) (b := p.body) h1 h2 (by omega)) (ab Z) Z Z Z Z (B0 := 14000) Z Z ?_)))
 first | refine cB O Z Z Z Z Z Z Z Z Z Z Z ?_ | refine js O Z ?_ | refine ba O Z Z Z Z Z ?_
 refine js O Z (jf [15,0,5,6,7] Z (jn (AWP.cond O Z Z (fun hc15 => ?_) (fun hc15 => ?_))))
 refine AWP.skip (AWP.seq (AWP.block (ag (j2 O Z Z ?_))))
 have hin : i ≤ aU p.body p.body.length := by have := of_decide_eq_true hc15; omega
 obtain ⟨k5, k6⟩ := k3 (by omega)
 have hla : ((eG p t i).paths ++ (fJ aY p t i g0).paths).length = (eG p t i).paths.length + (fJ aY p t i g0).paths.length := List.length_append
 refine ap O [] (bin := []) Z Z Z Z (show MC Tryz.prog L 29 [ptr p.data, eI ((i : Int) - 1)] [] (bb (.c (.pt 0 0 0)) (fo (pP p.pre p.body p.post) (cC (am t (-1) []).1) ((i : Int) - 1) (fJ aY p t i g0))) from qx (pre := p.pre) (b := p.body) (t := t) (E := lX p.body p.post) h1 h2 ht.len ht.tree ht.cok ht.nodes ht.e (eP ht.pre).2 (by omega) (n := i) hin) Z Z Z Z Z Z (B0 := 21000) Z Z (au ?_)
 refine js O Z (jf [8,15,0,5,6,7] Z (aR (j4 O Z Z Z Z (js O Z (jf [25,21,8,15,0,5,6,7] Z (AOps.heap (bF (own := false) (xs := (eG p t i).paths.map Pth.cells) (ys := (fJ aY p t i g0).paths.map Pth.cells) (zs := ((eG p t i).paths ++ (fJ aY p t i g0).paths).map Pth.cells) (n := ((eG p t i).paths ++ (fJ aY p t i g0).paths).length) O Z Z Z Z Z Z Z Z Z Z Z Z Z Z Z Z (.row Z (List.length_map _).symm) (.whole Z (by simp) (.inr ⟨Z, Z⟩)) (by simp) Z (by simp; omega) (by simp; omega) (by simp) (by simp)) Z (au ?_)))))))
 refine au ?_
 refine js O Z (jf [5,8,15,0,6,7] Z (aR (j4 O Z Z Z Z (js O Z (jf [31,27,5,8,15,0,6,7] Z (AOps.heap (bF (own := false) (xs := (eG p t i).conds.map Sq.cells) (ys := (fJ aY p t i g0).conds.map Sq.cells) (zs := ((eG p t i).conds ++ (fJ aY p t i g0).conds).map Sq.cells) (n := ((eG p t i).conds ++ (fJ aY p t i g0).conds).length) O Z Z Z Z Z Z Z Z Z Z Z Z Z Z Z Z (.row Z (List.length_map _).symm) (.whole Z (by simp) (.inr ⟨Z, Z⟩)) (by simp) Z (by simp; omega) (by simp; omega) (by simp) (by simp)) Z (au ?_)))))))
 refine au ?_
 refine js O Z (jf [6,5,8,15,0,7] Z (aR (j4 O Z Z Z Z ?_)))
 cases hb37 : (fJ aY p t i g0).bad with
 | true =>
  refine js O Z (jf [37,6,5,8,15,0,7] Z (AOps.skip Z Z Z Z Z Z (AOps.skip Z Z Z Z Z Z (jf [39,37,6,5,8,15,0,7] Z (AOps.skip Z Z Z Z Z Z (aa (jE O Z Z Z Z Z) Z Z Z (jf [41,6,5,8,15,0,7] Z (jn (AWP.cond O Z Z (fun hc41 => ?_) (fun hc41 => ?_))))))))))
  refine ag (j3 O Z Z Z (jn (AWP.ret ?_)))
  refine ⟨.inl Z, _, Ent.refl, _, Z, ?_⟩
  have hbad : (eG p t (i + 1)).bad = true := by rw [eG, if_neg (by rw [hi2]; decide)]; simp [hb37]
  rw [mv (al := eG p t) (fun i h => by rw [eG, if_pos h]) hbad (n := (aU p.body p.body.length + 1)) (by have := of_decide_eq_true hc15; omega), hbad, if_pos Z, if_pos Z]
  exact .tup (.cons (.c .nils) (.cons (.c .nils) (.cons (.c .d) .nil)))
  cases hc41
 | false =>
  refine js O Z (jf [37,6,5,8,15,0,7] Z (ah Z Z Z Z Z (js O Z (ah Z Z Z Z Z ?_))))
  first | refine cB O Z Z Z Z Z Z Z Z Z Z Z ?_ | refine js O Z ?_ | refine ba O Z Z Z Z Z ?_
  refine jf [39,37,6,5,8,15,0,7] Z (ah Z Z Z Z Z (js O Z (aa (aZ O Z Z Z Z Z) Z Z Z (jf [41,6,5,8,15,0,7] Z (jn (AWP.cond O Z Z (fun hc41 => ?_) (fun hc41 => ?_)))))))
  refine ag (j3 O Z Z Z (jn (AWP.ret ?_)))
  refine ⟨.inl Z, _, Ent.refl, _, Z, ?_⟩
  have hbad : (eG p t (i + 1)).bad = true := by rw [eG, if_neg (by rw [hi2]; decide)]; simp only [decide_eq_true (show 200 < ((eG p t i).paths ++ (fJ aY p t i g0).paths).length by have := of_decide_eq_true hc41; omega), Bool.or_true]
  rw [mv (al := eG p t) (fun i h => by rw [eG, if_pos h]) hbad (n := (aU p.body p.body.length + 1)) (by have := of_decide_eq_true hc15; omega), hbad, if_pos Z, if_pos Z]
  exact .tup (.cons (.c .nils) (.cons (.c .nils) (.cons (.c .d) .nil)))
  refine AWP.skip (AWP.region (js O Z ?_))
  first | refine ji O Z ?_ | refine ba O Z Z Z Z Z ?_
  refine js O Z (jf [7,41,6,5,8,15,0] Z (jn ?_))
  refine ⟨i + 1, (((aV [26,32] (e' := [(0, _), (5, _), (6, _), (7, _)]) Z Z ⟨Z, Z, Z, Z, trivial⟩ Z).trans (af 26 905 Z Z)).trans (af 32 906 Z Z)).trans (Ent.to ⟨Z, by rw [eG, if_neg (by rw [hi2]; decide)]; rfl, by rw [eG, if_neg (by rw [hi2]; decide)]; rfl, by rw [show (((i + 1 : Nat)) : Int) - 1 = ((i : Int) - 1) + 1 by omega]; rfl, trivial⟩ (by rw [eG, if_neg (by rw [hi2]; decide)]; rfl)), ⟨by omega, ?_⟩, by omega⟩
  rw [eG, if_neg (by rw [hi2]; decide)]
  simp only [hb37, decide_eq_false (show ¬ 200 < ((eG p t i).paths ++ (fJ aY p t i g0).paths).length by have := of_decide_eq_false hc41; omega)]; rfl
 refine AWP.exit (ag (j4 O Z Z Z Z (js O Z (jf [4,3,2,15,0,5,6,7] Z (jn (AWP.ret ?_))))))
 refine ⟨.inl Z, _, Ent.refl, _, Z, ?_⟩
 obtain rfl : i = (aU p.body p.body.length + 1) := by have := of_decide_eq_false hc15; omega
 rw [hi2, if_neg (by decide), if_neg (by decide)]
 exact .tup (.cons (.c (.whole Z (List.length_map _).symm)) (.cons (.c (.whole Z (List.length_map _).symm)) (.cons (.c .d) .nil)))
theorem rq {p : Pm} (hp : cE p = false) : MQ h1 h2 16 [aPm p] [] (Plain (.tup [.c (.d (f8 [])), eB false])) := by
 refine MC.data (jB 16 h1 h2 Tryz.func16 Z Z Z fun O hF => ?_)
 refine ag (jx O Z Z Z Z Z Z Z Z (au ?_))
 refine aA (Ent.freeze 1 (e' := [(1, _), (0, _)]) Z (.cons Z (.c (.box (cs := Pm.data p) Z (aw Z))) (.cons Z (.keep Z) .nil)) (.skip .nil)) ?_
 refine au ?_
 refine j2 O Z Z (jn (AWP.seq (ag (ae O Z Z Z Z ((rA (p := p) h1 h2).plain (u := eB false) (by rw [hp])) (ab Z) Z Z Z Z Z (B0 := 8000) Z (js O Z (jn (AWP.cond O Z Z (fun hc8 => ?_) (fun hc8 => ?_))))))))
 refine ag (j2 O Z Z (jn (AWP.ret ?_)))
 refine ⟨.inl Z, _, Ent.refl, _, Z, ?_⟩
 exact .tup (.cons (.c .nils) (.cons (.c .d) .nil))
 cases hc8
theorem ro {p : Pm} (hp : cE p = false) : MQ h1 h2 23 [aPm p] [] (Plain (.tup [.c (.d (e7 [])), eB false])) := by
 refine MC.data (jB 22 h1 h2 Tryz.func23 Z Z Z fun O hF => ?_)
 refine ag (jx O Z Z Z Z Z Z Z Z (au ?_))
 refine aA (Ent.freeze 1 (e' := [(1, _), (0, _)]) Z (.cons Z (.c (.box (cs := Pm.data p) Z (aw Z))) (.cons Z (.keep Z) .nil)) (.skip .nil)) ?_
 refine au ?_
 refine j2 O Z Z (jn (AWP.seq (ag (ae O Z Z Z Z ((rA (p := p) h1 h2).plain (u := eB false) (by rw [hp])) (ab Z) Z Z Z Z Z (B0 := 8000) Z (js O Z (jn (AWP.cond O Z Z (fun hc8 => ?_) (fun hc8 => ?_))))))))
 refine ag (j2 O Z Z (jn (AWP.ret ?_)))
 refine ⟨.inl Z, _, Ent.refl, _, Z, ?_⟩
 exact .tup (.cons (.c .nils) (.cons (.c .d) .nil))
 cases hc8
theorem sL {p : Pm} {ps : List Pth} {cs : List Sq} {b : Bool} (hp : cE p = true) (hA : MQ h1 h2 41 [ptr p.data] [] (Plain (.tup [.c (.d (f8 ps)), .c (.d (e7 cs)), eB b]))) : MQ h1 h2 16 [aPm p] [] (Plain (.tup [.c (.d (f8 ps)), eB b])) := by
 refine MC.data (jB 16 h1 h2 Tryz.func16 Z Z Z fun O hF => ?_)
 refine ag (jx O Z Z Z Z Z Z Z Z (au ?_))
 refine aA (Ent.freeze 1 (e' := [(1, _), (0, _)]) Z (.cons Z (.c (.box (cs := Pm.data p) Z (aw Z))) (.cons Z (.keep Z) .nil)) (.skip .nil)) ?_
 refine au ?_
 refine j2 O Z Z (jn (AWP.seq (ag (ae O Z Z Z Z ((rA (p := p) h1 h2).plain (u := eB true) (by rw [hp])) (ab Z) Z Z Z Z Z (B0 := 8000) Z (js O Z (jn (AWP.cond O Z Z (fun hc8 => ?_) (fun hc8 => ?_))))))))
 cases hc8
 refine AWP.skip (ag (ao O Z Z Z Z (hA) (ab Z) Z Z Z Z (B0 := 11000) Z Z (j4 O Z Z Z Z (j3 O Z Z Z (jf [6,4,7,3,2,1,0] Z (aR (j4 O Z Z Z Z (jf [3,2,7,1,0] Z (jn (AWP.ret ?_))))))))))
 refine ⟨.inl Z, _, Ent.refl, _, Z, ?_⟩
 exact .tup (.cons (.c .d) (.cons (.c .d) .nil))
theorem tW {p : Pm} {ps : List Pth} {cs : List Sq} (hp : cE p = true) (hA : MQ h1 h2 41 [ptr p.data] [] (Plain (.tup [.c (.d (f8 ps)), .c (.d (e7 cs)), eB true]))) (hc : df cs = true) : MQ h1 h2 23 [aPm p] [] (Plain (.tup [.c (.d (e7 cs)), eB true])) := by
 refine MC.data (jB 22 h1 h2 Tryz.func23 Z Z Z fun O hF => ?_)
 refine ag (jx O Z Z Z Z Z Z Z Z (au ?_))
 refine aA (Ent.freeze 1 (e' := [(1, _), (0, _)]) Z (.cons Z (.c (.box (cs := Pm.data p) Z (aw Z))) (.cons Z (.keep Z) .nil)) (.skip .nil)) ?_
 refine au ?_
 refine j2 O Z Z (jn (AWP.seq (ag (ae O Z Z Z Z ((rA (p := p) h1 h2).plain (u := eB true) (by rw [hp])) (ab Z) Z Z Z Z Z (B0 := 8000) Z (js O Z (jn (AWP.cond O Z Z (fun hc8 => ?_) (fun hc8 => ?_))))))))
 cases hc8
 refine AWP.skip (ag (ao O Z Z Z Z (hA) (ab Z) Z Z Z Z (B0 := 11000) Z Z (j4 O Z Z Z Z (j3 O Z Z Z (jf [6,5,7,3,2,1,0] Z (jn (AWP.seq (ag (j3 O Z Z Z (jf [16,5,7,3,2,1,0] Z (ah Z Z Z Z Z (js O Z (ah Z Z Z Z Z ?_)))))))))))))
 refine ae O Z Z Z Z ((qw (ss := cs) h1 h2).plain (u := eB true) (by rw [hc])) (ab Z) Z Z Z Z Z (B0 := 19000) Z (jf [18,16,5,7,3,2,1,0] Z (ah Z Z Z Z Z (js O Z ?_)))
 first | refine aa (aj O Z Z Z Z Z) Z Z Z ?_ | refine aa (Val.pickB O Z Z Z Z Z) Z Z Z ?_ | refine aa (ak O Z Z Z Z Z) Z Z Z ?_
 refine jf [20,5,7,3,2,1,0] Z (jn (AWP.cond O Z Z (fun hc20 => ?_) (fun hc20 => ?_)))
 exact absurd hc20 (by decide)
 refine AWP.skip (ag (j3 O Z Z Z (jf [3,2,5,7,1,0] Z (jn (AWP.ret ?_)))))
 refine ⟨.inl Z, _, Ent.refl, _, Z, ?_⟩
 exact .tup (.cons (.c .d) (.cons (.c .d) .nil))
theorem tX {p : Pm} {ps : List Pth} {cs : List Sq} (hp : cE p = true) (hA : MQ h1 h2 41 [ptr p.data] [] (Plain (.tup [.c (.d (f8 ps)), .c (.d (e7 cs)), eB true]))) (hc : df cs = false) : MQ h1 h2 23 [aPm p] [] (Plain (.tup [.c (.d (e7 [])), eB false])) := by
 refine MC.data (jB 22 h1 h2 Tryz.func23 Z Z Z fun O hF => ?_)
 refine ag (jx O Z Z Z Z Z Z Z Z (au ?_))
 refine aA (Ent.freeze 1 (e' := [(1, _), (0, _)]) Z (.cons Z (.c (.box (cs := Pm.data p) Z (aw Z))) (.cons Z (.keep Z) .nil)) (.skip .nil)) ?_
 refine au ?_
 refine j2 O Z Z (jn (AWP.seq (ag (ae O Z Z Z Z ((rA (p := p) h1 h2).plain (u := eB true) (by rw [hp])) (ab Z) Z Z Z Z Z (B0 := 8000) Z (js O Z (jn (AWP.cond O Z Z (fun hc8 => ?_) (fun hc8 => ?_))))))))
 cases hc8
 refine AWP.skip (ag (ao O Z Z Z Z (hA) (ab Z) Z Z Z Z (B0 := 11000) Z Z (j4 O Z Z Z Z (j3 O Z Z Z (jf [6,5,7,3,2,1,0] Z (jn (AWP.seq (ag (j3 O Z Z Z (jf [16,5,7,3,2,1,0] Z (ah Z Z Z Z Z (js O Z (ah Z Z Z Z Z ?_)))))))))))))
 refine ae O Z Z Z Z ((qw (ss := cs) h1 h2).plain (u := eB false) (by rw [hc])) (ab Z) Z Z Z Z Z (B0 := 19000) Z (jf [18,16,5,7,3,2,1,0] Z (ah Z Z Z Z Z (js O Z ?_)))
 first | refine aa (aj O Z Z Z Z Z) Z Z Z ?_ | refine aa (Val.pickB O Z Z Z Z Z) Z Z Z ?_ | refine aa (ak O Z Z Z Z Z) Z Z Z ?_
 refine jf [20,5,7,3,2,1,0] Z (jn (AWP.cond O Z Z (fun hc20 => ?_) (fun hc20 => ?_)))
 refine ag (j2 O Z Z (jn (AWP.ret ?_)))
 refine ⟨.inl Z, _, Ent.refl, _, Z, ?_⟩
 exact .tup (.cons (.c .nils) (.cons (.c .d) .nil))
 exact absurd hc20 (by decide)
theorem tY {p : Pm} {ps : List Pth} {cs : List Sq} (hp : cE p = true) (hA : MQ h1 h2 41 [ptr p.data] [] (Plain (.tup [.c (.d (f8 ps)), .c (.d (e7 cs)), eB false]))) : MQ h1 h2 23 [aPm p] [] (Plain (.tup [.c (.d (e7 [])), eB false])) := by
 refine MC.data (jB 22 h1 h2 Tryz.func23 Z Z Z fun O hF => ?_)
 refine ag (jx O Z Z Z Z Z Z Z Z (au ?_))
 refine aA (Ent.freeze 1 (e' := [(1, _), (0, _)]) Z (.cons Z (.c (.box (cs := Pm.data p) Z (aw Z))) (.cons Z (.keep Z) .nil)) (.skip .nil)) ?_
 refine au ?_
 refine j2 O Z Z (jn (AWP.seq (ag (ae O Z Z Z Z ((rA (p := p) h1 h2).plain (u := eB true) (by rw [hp])) (ab Z) Z Z Z Z Z (B0 := 8000) Z (js O Z (jn (AWP.cond O Z Z (fun hc8 => ?_) (fun hc8 => ?_))))))))
 cases hc8
 refine AWP.skip (ag (ao O Z Z Z Z (hA) (ab Z) Z Z Z Z (B0 := 11000) Z Z (j4 O Z Z Z Z (j3 O Z Z Z (jf [6,5,7,3,2,1,0] Z (jn (AWP.seq (ag (j3 O Z Z Z (jf [16,5,7,3,2,1,0] Z (AOps.skip Z Z Z Z Z Z (AOps.skip Z Z Z Z Z Z (jf [18,16,5,7,3,2,1,0] Z ?_)))))))))))))
 refine AOps.skip Z Z Z Z Z Z (aa (jE O Z Z Z Z Z) Z Z Z (jf [20,5,7,3,2,1,0] Z (jn (AWP.cond O Z Z (fun hc20 => ?_) (fun hc20 => ?_)))))
 refine ag (j2 O Z Z (jn (AWP.ret ?_)))
 refine ⟨.inl Z, _, Ent.refl, _, Z, ?_⟩
 exact .tup (.cons (.c .nils) (.cons (.c .d) .nil))
 exact absurd hc20 (by decide)
/-! How great the paths are that are gathered. -/
deriving instance Inhabited, DecidableEq for Pth
abbrev mQ (k : Int) (s : Sq) : Sq := ⟨aJ mT nT k s.facts, ⟨k + bh nT s.facts, aJ mI bZ (k + bh nT s.facts + 1) s.goal.xs⟩⟩
abbrev nQ (s : Sq) : Nat := bh nT s.facts + 1 + s.goal.xs.length
abbrev dh (p : Pth) : Nat := 2 + bh nT p.facts + bh nT p.ends + p.ev.length
def lZ (g : Gs) : Prop := ∀ p ∈ g.paths, dh p ≤ 1000
def FsOk (fs : List Tm) : Prop := ∀ t ∈ fs, t.ok = true
theorem pg {t : Tm} : (bq t).1.ok = true := by
 unfold bq pr qk; split
 assumption
 rfl
theorem l6 : ∀ {fs : List Tm}, FsOk fs → bh nT fs ≤ 11 * fs.length
 | [], _ => by simp [bh]
 | t :: fs, h => by
  have h1 := l6 (fs := fs) fun t ht => h t (by simp [ht])
  have h2 := kp (h t (by simp))
  have h3 : nT t = 1 + t.xs.length := rfl
  simp only [bh, List.map_cons, List.sum_cons, List.length_cons] at h1 ⊢
  omega
theorem FsOk.snoc {fs : List Tm} (h : FsOk fs) {t : Tm} (ht : t.ok = true) : FsOk (fs ++ [t]) := fun u hu => by
 rcases List.mem_append.1 hu with h1 | h1
 exact h u h1
 rw [List.mem_singleton.1 h1]; exact ht
theorem rY {frm to : Int} {w : Pw} (h : WOk 0 w) (hf : FsOk w.facts) : dh ⟨frm, to, w.facts, w.vars, w.ev⟩ ≤ 1000 := by
 have h1 := l6 hf
 have h2 := l6 h.ok
 have h3 := h.vars
 have h4 := h.facts
 have h5 := h.ev
 show 2 + bh nT w.facts + bh nT w.vars + w.ev.length ≤ 1000
 omega
theorem nL {frm to : Int} {w : Pw} (hw : WOk 0 w) (hf : FsOk w.facts) {fs : List Tm} {g : Gs} (h : lZ g) : lZ (cI frm w to fs g) := fun p hp => by
 unfold cI ft at hp
 rw [dM] at hp
 rcases List.mem_append.1 hp with h1 | h1
 exact h p h1
 rw [List.mem_singleton.1 h1]; exact rY hw hf
theorem kN {la : cv} {s : Sm} {w : Pw} {g : Gs} : (bE la s w g).2.paths = g.paths := by
 unfold bE
 split
 rfl
 split
 split <;> rfl
 split
 rfl
 split
 rfl
 split <;> rfl
theorem kO {la : cv} {s : Sm} {w : Pw} {g : Gs} (h : FsOk w.facts) : FsOk (bE la s w g).1.facts := by
 unfold bE
 split
 exact h
 split
 split <;> exact h
 split
 exact h
 split
 exact h
 split
 exact h.snoc dr
 exact h
theorem gg {la : cv} {E : Pe} {frm : Int} : ∀ {n : Nat} {r : List Fr} {w : Pw} {g : Gs}, WOk n w → FsOk w.facts → lZ g → lZ (dA la E frm n r w g)
 | 0, r, w, g, hw, hf, hg => hg
 | n + 1, r, w, g, hw, hf, hg => by
  have w0 := hw.le (Nat.zero_le _)
  have w1 := hw.le (Nat.le_succ n)
  cases hb : g.bad with
  | true => rw [cg hb]; exact hg
  | false =>
   match r with
   | [] => rw [ep hb]; exact nL w0 hf hg
   | .lp k :: r => rw [fL hb]; exact nL w0 hf hg
   | .st (.node s a []) :: r =>
    rw [dE hb]
    exact gg hw.leaf (kO hf) (fun p hp => hg p (by rw [kN] at hp; exact hp))
   | .st (.node s a [x]) :: r => rw [fK hb]; exact nL w0 hf hg
   | .st (.node s a [x, y]) :: r =>
    by_cases hk : s.kind = 1
    rw [eo hb hk]; exact gg w1 hf hg
    rw [fM hb hk]
    exact gg hw.fact (hf.snoc pg) (gg hw.fact (hf.snoc dr) hg)
   | .st (.node s a (x :: y :: z :: ks)) :: r =>
    rw [fv hb]
    exact gg hw.leaf (kO hf) (fun p hp => hg p (by rw [kN] at hp; exact hp))
theorem q8 {la : cv} {E : Pe} {b : List Sm} {t : Tr} {pre : List Tm} {n : Nat} {g : Gs} (hp : TsOk pre ∧ pre.length ≤ 6) (hs : ∀ m, n = m + 1 → TsOk ((aS b t []).getD m default).s.facts ∧ ((aS b t []).getD m default).s.facts.length ≤ 6) (hg : lZ g) : lZ (bR la E b t pre n g) := by
 cases n with
 | zero =>
  rw [bR]
  exact gg (lj (by omega)) (fun t ht => (hp.1 t ht).1) hg
 | succ n =>
  obtain ⟨h1, h2⟩ := hs n rfl
  rw [bR]
  have hw := lj (n := 32) (fs := ((aS b t []).getD n default).s.facts) (by omega)
  have hf : FsOk (w0 ((aS b t []).getD n default).s.facts).facts := fun t ht => (h1 t ht).1
  exact gg hw.fact (hf.snoc pg) (gg hw.fact (hf.snoc dr) hg)
theorem nM : ∀ {ps : List Pth}, (∀ p ∈ ps, dh p ≤ 1000) → bh dh ps ≤ 1000 * ps.length
 | [], _ => by simp [bh]
 | p :: ps, h => by
  have h1 := nM (ps := ps) fun p hp => h p (by simp [hp])
  have h2 := h p (by simp)
  simp only [bh, List.map_cons, List.sum_cons, List.length_cons] at h1 h2 ⊢
  omega
theorem sn {la : cv} {p : Pm} {t : Tr} (ht : PtOk p t) {n : Nat} (hn : n ≤ aU p.body p.body.length) {g : Gs} (hg : lZ g) : lZ (fJ la p t n g) := by
 unfold fJ
 refine q8 (eP ht.pre) (fun m hm => ?_) hg
 obtain ⟨hq, _⟩ := gL ht.tree (n := m) (by omega)
 have hat := (pq ht.tree (r := [])).at_ _ hq
 have hst := ht.st _ hat.2.1
 rw [← hat.2.2.2] at hst
 exact ej hst
theorem qy {p : Pm} {t : Tr} (ht : PtOk p t) : ∀ {n : Nat}, n ≤ aU p.body p.body.length + 1 → lZ (jc p t n)
 | 0, _ => fun p hp => by cases hp
 | n + 1, h => by
  rw [jc]
  exact sn ht (by omega) (qy ht (by omega))
theorem lQ {ss : List Sq} (h : df ss = true) : bh nQ ss ≤ 20000 := by
 unfold df at h
 simp only [Bool.and_eq_true, decide_eq_true_eq] at h
 have key : ∀ l : List Sq, (∀ s ∈ l, ld s = true) → bh nQ l ≤ 200 * l.length := by
  intro l hl
  induction l with
  | nil => simp [bh]
  | cons s r ih =>
   have h1 := ih fun s hs => hl s (by simp [hs])
   have h2 := hl s (by simp)
   have e : nQ s = bh nT s.facts + 1 + s.goal.xs.length := rfl
   unfold ld ee at h2
   simp only [Bool.and_eq_true, decide_eq_true_eq] at h2
   have h3 := l6 (fs := s.facts) fun t ht => List.all_eq_true.1 h2.1.1 t ht
   have h4 := kp h2.2
   have h5 := h2.1.2
   simp only [bh, List.map_cons, List.sum_cons, List.length_cons] at h1 ⊢
   omega
 have := key ss (List.all_eq_true.1 h.1)
 omega
abbrev oZ (ss : List Sq) : A := .c (.d (e7 ss))
abbrev u7 (p : Pth) : A := .agg (p.cells.map .d)
abbrev o0 (ps : List Pth) : A := .c (.d (f8 ps))
abbrev f9 (k : Int) (p : Pth) : Pth := ⟨k, k + 1, aJ mT nT (k + 1 + 1) p.facts, aJ mT nT (k + 1 + 1 + bh nT p.facts) p.ends, aJ mI bZ (k + 1 + 1 + bh nT p.facts + bh nT p.ends) p.ev⟩
theorem qf {xs ys : List Sq} : MQ h1 h2 20 [.c (.d (e7 xs)), .c (.d (e7 ys))] [] (Plain (eB (decide (xs = ys)))) := by
 refine av ?_ Z
 refine jB 27 h1 h2 Tryz.func20 Z Z Z fun O hF => ?_
 have hl : xs.length ≤ L := by simpa [As.fact, A.fact, M.fact, D.fact, Ds.fact] using hF.1.1
 have hl2 : ys.length ≤ L := by simpa [As.fact, A.fact, M.fact, D.fact, Ds.fact] using hF.2.1.1
 refine ag (js O Z (jn (AWP.seq (ag (js O Z ?_)))))
 first | refine cB O Z Z Z Z Z Z Z Z Z Z Z ?_ | refine js O Z ?_ | refine ba O Z Z Z Z Z ?_
 refine js O Z ?_
 first | refine cB O Z Z Z Z Z Z Z Z Z Z Z ?_ | refine js O Z ?_ | refine ba O Z Z Z Z Z ?_
 refine js O Z (jn (AWP.cond O Z Z (fun hc10 => ?_) (fun hc10 => ?_)))
 try simp only [bi] at hc10
 refine ag (js O Z (jn (AWP.ret ?_)))
 refine ⟨.inl Z, _, Ent.refl, _, Z, ?_⟩
 rw [decide_eq_false (fun e => by subst e; simp at hc10)]
 try simp only [bi] at hc10
 refine AWP.skip (AWP.seq (ag (js O Z (jn (AWP.block (az (X := Nat) (fun i => ⟨[(0, .c (.d (e7 xs))), (1, .c (.d (e7 ys))), (5, eI i)], []⟩) (fun i => i ≤ xs.length ∧ ∀ j, j < i → xs[j]? = ys[j]?) (fun i => xs.length - i) 0 (Ent.env ⟨Z, Z, Z, trivial⟩) ?_ (fun i hi => ?_)))))))
 exact ⟨Nat.zero_le _, fun j hj => absurd hj (Nat.not_lt_zero j)⟩
 refine AWP.seq (ag (j2 O Z Z ?_))
 first | refine cB O Z Z Z Z Z Z Z Z Z Z Z ?_ | refine js O Z ?_ | refine ba O Z Z Z Z Z ?_
 refine js O Z (jn (AWP.cond O Z Z (fun hc14 => ?_) (fun hc14 => ?_)))
 try simp only [bi] at hc14
 refine AWP.skip (AWP.seq (AWP.block (AWP.seq (f7 O [_,_,_,_,_,_,_,_,_,_] [pn [] 0 0, pn [] 0 0, pn [0,1] 0 0, pn [0,1,2] 0 0, pn [] 0 0, pn [] 0 0, pn [4,5] 0 0, pn [4,5,6] 0 0, pe [0,1,2,3,4,5,6,7] 0, pn [0,1,2,3,4,5,6,7,8] 1 1] [8] [_,_] (kc O Z (kc O Z (ai (aX O Z Z Z Z Z Z Z Z (by first | omega | (simp at *; omega)) (cL (by first | omega | (simp at *; omega)) (by first | omega | (simp at *; omega)))) (kc O Z (kc O Z (kc O Z (ai (aX O Z Z Z Z Z Z Z Z (by first | omega | (simp at *; omega)) (cL (by first | omega | (simp at *; omega)) (by first | omega | (simp at *; omega)))) (kc O Z (ai (cd O (B0 := 26000) Z Z Z Z (c36 h1 h2) (ab Z) Z Z Z Z Z) (kc O Z trivial)))))))))) ?_))))
 refine AWP.cond O Z Z (fun hc26 => ?_) (fun hc26 => ?_)
 try simp only [bi] at hc26
 refine ag (js O Z (jn (AWP.ret ?_)))
 refine ⟨.inl Z, _, Ent.refl, _, Z, ?_⟩
 rw [decide_eq_false (fun e => by subst e; simp at hc26)]
 try simp only [bi] at hc26
 refine AWP.skip (AWP.region (js O Z ?_))
 first | refine ji O Z ?_ | refine ba O Z Z Z Z Z ?_
 refine js O Z (jn ?_)
 refine ⟨i + 1, Ent.env ⟨Z, Z, Z, trivial⟩, ⟨by omega, fun j hj => ?_⟩, by omega⟩
 rcases Nat.lt_or_ge j i with h | h
 exact hi.2 j h
 obtain rfl : j = i := by omega
 rw [Int.toNat_natCast, aK (by omega), aK (by omega)] at hc26
 rw [List.getElem?_eq_getElem (by omega), List.getElem?_eq_getElem (by omega), hc26]
 try simp only [bi] at hc14
 refine AWP.exit (ag (js O Z (jn (AWP.ret ?_))))
 refine ⟨.inl Z, _, Ent.refl, _, Z, ?_⟩
 have e : xs = ys := List.ext_getElem? fun j => by
  rcases Nat.lt_or_ge j i with h | h
  ·
   exact hi.2 j h
  ·
   rw [List.getElem?_eq_none (by omega), List.getElem?_eq_none (by omega)]
 rw [decide_eq_true e]
theorem vJ {s t : Pth} : MQ h1 h2 33 [u7 s, u7 t] [] (Plain (eB (decide (s = t)))) := by
 refine av ?_ Z
 refine jB 33 h1 h2 Tryz.func33 Z Z Z fun O hF => ?_
 refine ag (jx O Z Z Z Z Z Z Z Z (jx O Z Z Z Z Z Z Z Z (js O Z (jn (AWP.seq (ag (j4 O Z Z Z Z (js O Z (jn (AWP.cond O Z Z (fun hc9 => ?_) (fun hc9 => ?_)))))))))))
 try simp only [bi] at hc9
 refine ag (js O Z (jn (AWP.ret ?_)))
 refine ⟨.inl Z, _, Ent.refl, _, Z, ?_⟩
 rw [decide_eq_false (fun e => hc9 (by rw [e]))]
 try simp only [bi] at hc9
 refine AWP.skip (AWP.seq (ag (j4 O Z Z Z Z (js O Z (jn (AWP.cond O Z Z (fun hc14 => ?_) (fun hc14 => ?_)))))))
 try simp only [bi] at hc14
 refine ag (js O Z (jn (AWP.ret ?_)))
 refine ⟨.inl Z, _, Ent.refl, _, Z, ?_⟩
 rw [decide_eq_false (fun e => hc14 (by rw [e]))]
 try simp only [bi] at hc14
 refine AWP.skip (AWP.seq (ag (j4 O Z Z Z Z (ae O Z Z Z Z (uf h1 h2) (ab Z) Z Z Z Z Z (B0 := 20000) Z (js O Z (jn (AWP.cond O Z Z (fun hc20 => ?_) (fun hc20 => ?_))))))))
 try simp only [bi] at hc20
 refine ag (js O Z (jn (AWP.ret ?_)))
 refine ⟨.inl Z, _, Ent.refl, _, Z, ?_⟩
 rw [decide_eq_false (fun e => hc20 (by rw [e]))]
 try simp only [bi] at hc20
 refine AWP.skip (AWP.seq (ag (j4 O Z Z Z Z (ae O Z Z Z Z (uf h1 h2) (ab Z) Z Z Z Z Z (B0 := 26000) Z (js O Z (jn (AWP.cond O Z Z (fun hc26 => ?_) (fun hc26 => ?_))))))))
 try simp only [bi] at hc26
 refine ag (js O Z (jn (AWP.ret ?_)))
 refine ⟨.inl Z, _, Ent.refl, _, Z, ?_⟩
 rw [decide_eq_false (fun e => hc26 (by rw [e]))]
 try simp only [bi] at hc26
 refine AWP.skip (AWP.seq (ag (j4 O Z Z Z Z (ae O Z Z Z Z (xi h1 h2) (ab Z) Z Z Z Z Z (B0 := 32000) Z (js O Z (jn (AWP.cond O Z Z (fun hc32 => ?_) (fun hc32 => ?_))))))))
 try simp only [bi] at hc32
 refine ag (js O Z (jn (AWP.ret ?_)))
 refine ⟨.inl Z, _, Ent.refl, _, Z, ?_⟩
 rw [decide_eq_false (fun e => hc32 (by rw [e]))]
 try simp only [bi] at hc32
 refine AWP.skip (ag (js O Z (jn (AWP.ret ?_))))
 refine ⟨.inl Z, _, Ent.refl, _, Z, ?_⟩
 have e : s = t := by cases s; cases t; simp_all
 rw [decide_eq_true e]
theorem f6 {xs ys : List Pth} : MQ h1 h2 11 [.c (.d (f8 xs)), .c (.d (f8 ys))] [] (Plain (eB (decide (xs = ys)))) := by
 refine av ?_ Z
 refine jB 27 h1 h2 Tryz.func11 Z Z Z fun O hF => ?_
 have hl : xs.length ≤ L := by simpa [As.fact, A.fact, M.fact, D.fact, Ds.fact] using hF.1.1
 have hl2 : ys.length ≤ L := by simpa [As.fact, A.fact, M.fact, D.fact, Ds.fact] using hF.2.1.1
 refine ag (js O Z (jn (AWP.seq (ag (js O Z ?_)))))
 first | refine cB O Z Z Z Z Z Z Z Z Z Z Z ?_ | refine js O Z ?_ | refine ba O Z Z Z Z Z ?_
 refine js O Z ?_
 first | refine cB O Z Z Z Z Z Z Z Z Z Z Z ?_ | refine js O Z ?_ | refine ba O Z Z Z Z Z ?_
 refine js O Z (jn (AWP.cond O Z Z (fun hc10 => ?_) (fun hc10 => ?_)))
 try simp only [bi] at hc10
 refine ag (js O Z (jn (AWP.ret ?_)))
 refine ⟨.inl Z, _, Ent.refl, _, Z, ?_⟩
 rw [decide_eq_false (fun e => by subst e; simp at hc10)]
 try simp only [bi] at hc10
 refine AWP.skip (AWP.seq (ag (js O Z (jn (AWP.block (az (X := Nat) (fun i => ⟨[(0, .c (.d (f8 xs))), (1, .c (.d (f8 ys))), (5, eI i)], []⟩) (fun i => i ≤ xs.length ∧ ∀ j, j < i → xs[j]? = ys[j]?) (fun i => xs.length - i) 0 (Ent.env ⟨Z, Z, Z, trivial⟩) ?_ (fun i hi => ?_)))))))
 exact ⟨Nat.zero_le _, fun j hj => absurd hj (Nat.not_lt_zero j)⟩
 refine AWP.seq (ag (j2 O Z Z ?_))
 first | refine cB O Z Z Z Z Z Z Z Z Z Z Z ?_ | refine js O Z ?_ | refine ba O Z Z Z Z Z ?_
 refine js O Z (jn (AWP.cond O Z Z (fun hc14 => ?_) (fun hc14 => ?_)))
 try simp only [bi] at hc14
 refine AWP.skip (AWP.seq (AWP.block (AWP.seq (f7 O [_,_,_,_,_,_,_,_,_,_] [pn [] 0 0, pn [] 0 0, pn [0,1] 0 0, pn [0,1,2] 0 0, pn [] 0 0, pn [] 0 0, pn [4,5] 0 0, pn [4,5,6] 0 0, pe [0,1,2,3,4,5,6,7] 0, pn [0,1,2,3,4,5,6,7,8] 1 1] [8] [_,_] (kc O Z (kc O Z (ai (aX O Z Z Z Z Z Z Z Z (by first | omega | (simp at *; omega)) (cL (by first | omega | (simp at *; omega)) (by first | omega | (simp at *; omega)))) (kc O Z (kc O Z (kc O Z (ai (aX O Z Z Z Z Z Z Z Z (by first | omega | (simp at *; omega)) (cL (by first | omega | (simp at *; omega)) (by first | omega | (simp at *; omega)))) (kc O Z (ai (cd O (B0 := 26000) Z Z Z Z (vJ h1 h2) (ab Z) Z Z Z Z Z) (kc O Z trivial)))))))))) ?_))))
 refine AWP.cond O Z Z (fun hc26 => ?_) (fun hc26 => ?_)
 try simp only [bi] at hc26
 refine ag (js O Z (jn (AWP.ret ?_)))
 refine ⟨.inl Z, _, Ent.refl, _, Z, ?_⟩
 rw [decide_eq_false (fun e => by subst e; simp at hc26)]
 try simp only [bi] at hc26
 refine AWP.skip (AWP.region (js O Z ?_))
 first | refine ji O Z ?_ | refine ba O Z Z Z Z Z ?_
 refine js O Z (jn ?_)
 refine ⟨i + 1, Ent.env ⟨Z, Z, Z, trivial⟩, ⟨by omega, fun j hj => ?_⟩, by omega⟩
 rcases Nat.lt_or_ge j i with h | h
 exact hi.2 j h
 obtain rfl : j = i := by omega
 rw [Int.toNat_natCast, aK (by omega), aK (by omega)] at hc26
 rw [List.getElem?_eq_getElem (by omega), List.getElem?_eq_getElem (by omega), hc26]
 try simp only [bi] at hc14
 refine AWP.exit (ag (js O Z (jn (AWP.ret ?_))))
 refine ⟨.inl Z, _, Ent.refl, _, Z, ?_⟩
 have e : xs = ys := List.ext_getElem? fun j => by
  rcases Nat.lt_or_ge j i with h | h
  ·
   exact hi.2 j h
  ·
   rw [List.getElem?_eq_none (by omega), List.getElem?_eq_none (by omega)]
 rw [decide_eq_true e]
theorem qV {k : Int} : MQ h1 h2 21 [.c (.d (e7 [])), eI k] [] (Plain (eI k)) := by
 refine av ?_ Z
 refine jB 36 h1 h2 Tryz.func21 Z Z Z fun O hF => ?_
 refine ag (js O Z (jn (AWP.seq (ag (js O Z (jn (AWP.block (az (X := Nat) (fun i => ⟨[(0, .c (.d (e7 []))), (1, eI k), (5, eI 0)], []⟩) (fun i => True) (fun i => 0) 0 (Ent.env ⟨Z, Z, Z, trivial⟩) ?_ (fun i hi => ?_)))))))))
 trivial
 refine AWP.seq (ag (j2 O Z Z ?_))
 first | refine cB O Z Z Z Z Z Z Z Z Z Z Z ?_ | refine js O Z ?_ | refine ba O Z Z Z Z Z ?_
 refine js O Z (jn (AWP.cond O Z Z (fun hc9 => ?_) (fun hc9 => ?_)))
 try simp only [bi] at hc9
 exact absurd hc9 (by simp)
 try simp only [bi] at hc9
 refine AWP.exit (ag (j2 O Z Z (jn (AWP.ret ?_))))
 refine ⟨.inl Z, _, Ent.refl, _, Z, ?_⟩
 first | rfl | skip
theorem sN {ts : List Sq} {k : Int} (hk0 : 0 ≤ k) (hk1 : k + bh nQ ts ≤ 1073741824) : MQ h1 h2 21 [.c (.rs 0 0 ts.length), eI k] [(0, ay ts)] (bb (eI (k + bh nQ ts)) [(0, ay (aJ mQ nQ k ts))]) := by
 refine jH 36 [0] h1 h2 Tryz.func21 Z Z Z Z fun O hF => ?_
 refine fI 0 Z (fun hB => ?_)
 have hl : ts.length ≤ L := by simpa [B.fact] using hB.1
 refine ag (js O Z (jn (AWP.seq (ag (js O Z (jn (AWP.block (az (X := Nat) (fun i => ⟨[(0, .c (.rs 0 0 ts.length)), (1, eI (k + bh nQ (ts.take i))), (5, eI i)], [(0, ay (mk mQ nQ k i ts))]⟩) (fun i => i ≤ ts.length) (fun i => ts.length - i) 0 (Ent.to ⟨Z, by simp [bN, aq, bh], Z, trivial⟩ (by simp [iL])) ?_ (fun i hi => ?_)))))))))
 exact Nat.zero_le _
 refine AWP.seq (ag (j2 O Z Z ?_))
 first | refine cB O Z Z Z Z Z Z Z Z Z Z Z ?_ | refine js O Z ?_ | refine ba O Z Z Z Z Z ?_
 refine js O Z (jf [9,0,1,5] Z (jn (AWP.cond O Z Z (fun hc9 => ?_) (fun hc9 => ?_))))
 try simp only [bi] at hc9
 refine AWP.skip (AWP.seq (AWP.block (ag ?_)))
 obtain ⟨K, hK⟩ : ∃ K, K = k + (bh nQ (ts.take i) : Int) := ⟨_, rfl⟩
 rw [← hK]
 have hcs := eR (sz := nQ) (show i < ts.length by omega)
 have hcl := io (sz := nQ) (l := ts) (i := i + 1)
 have hg := jh (f := mQ) (sz := nQ) (k := k) (show i < ts.length by omega)
 have hs := gK (f := mQ) (sz := nQ) (k := k) (show i < ts.length by omega)
 rw [← aK (show i < ts.length by omega)] at hcs hg hs
 obtain ⟨t, ht⟩ : ∃ t, t = ts.getD i default := ⟨_, rfl⟩
 rw [← ht] at hcs hg hs
 rw [← hK] at hs
 simp only [nQ] at hcs
 have hb : K + (bh nT t.facts + 1 + t.goal.xs.length : Nat) ≤ 1073741824 := by omega
 obtain ⟨R, hR⟩ : ∃ R, R = (mk mQ nQ k i ts).map Sq.cells := ⟨_, rfl⟩
 have hRl : i < R.length := by rw [hR, List.length_map, fB]; omega
 have hRi : R[i]? = some (Sq.cells t) := by rw [hR, List.getElem?_map, hg]; rfl
 have hRn : R.set i (Sq.cells (mQ K t)) = (mk mQ nQ k (i + 1) ts).map Sq.cells := by rw [hR, ← hs, List.map_set]
 have e0 : ay (mk mQ nQ k i ts) = .row true 3 (R.set i (Sq.cells t)) := by rw [gT hRi, hR]
 rw [e0]
 refine j2 O Z Z ?_
 first | refine dS O Z Z Z Z Z Z Z Z Z Z Z ?_ | refine ba O Z Z Z Z Z ?_
 refine js O Z (aa (bQ O (ex := [b0 (t.facts), .int .i64 (t.goal.c), br (t.goal.xs)]) Z Z Z Z (by simp [hRl]) Z) Z Z Z (js O Z (jf [17,16,9,0,1,5] Z (cO O (l := 0) (j := 0) (z := 2) (ex := [b0 (t.facts), .int .i64 (t.goal.c), br (t.goal.xs)]) (ys := (t.facts).map Tm.cells) (ys' := (aJ mT nT K t.facts).map Tm.cells) (xs' := R.set i [b0 (aJ mT nT K t.facts), .int .i64 (t.goal.c), br (t.goal.xs)]) Z Z Z Z (.rp (.d Z .nil)) (.rp (.d Z .nil)) Z (by simp [hRl]) Z (rB (ts := t.facts) (k := K) h1 h2 (by omega) (by omega)).1 (fun _ => by rw [List.length_map]; exact rB (ts := t.facts) h1 h2 (by omega) (by omega)) (fun hys => ?_) Z (by simp [aM]) Z Z Z Z (by simp) ?_))))
 have hy : t.facts = [] := by simpa using hys
 rw [hy]
 exact (rP h1 h2 (k := K)).plain (by simp [bh, hy])
 refine au ?_
 refine js O Z (jf [1,9,0,5] Z (aR (j3 O Z Z Z ?_)))
 first | refine dS O Z Z Z Z Z Z Z Z Z Z Z ?_ | refine ba O Z Z Z Z Z ?_
 refine j2 O Z Z (jf [24,21,1,9,0,5] Z (AOps.heap (bt (ex := [b0 (aJ mT nT K t.facts), .int .i64 (t.goal.c), br (t.goal.xs)]) (xs' := R.set i [b0 (aJ mT nT K t.facts), .int .i64 (K + bh nT t.facts), br (t.goal.xs)]) O Z Z Z Z Z Z Z Z Z Z Z Z Z Z (by simp [hRl]) (by simp)) Z (au ?_)))
 refine jf [1,9,0,5] Z (aR (js O Z ?_))
 first | refine ji O Z ?_ | refine ba O Z Z Z Z Z ?_
 refine js O Z (jf [1,9,0,5] Z (jn (AWP.region (j2 O Z Z ?_))))
 first | refine dS O Z Z Z Z Z Z Z Z Z Z Z ?_ | refine ba O Z Z Z Z Z ?_
 refine j2 O Z Z (aa (bQ O (ex := [b0 (aJ mT nT K t.facts), .int .i64 (K + bh nT t.facts), br (t.goal.xs)]) Z Z Z Z (by simp [hRl]) Z) Z Z Z (js O Z (jf [33,32,1,9,0,5] Z (cO O (l := 0) (j := 2) (z := 1) (ex := [b0 (aJ mT nT K t.facts), .int .i64 (K + bh nT t.facts), br (t.goal.xs)]) (ys := (t.goal.xs).map (fun n => [D.int .i64 n])) (ys' := (aJ mI bZ (K + bh nT t.facts + 1) t.goal.xs).map (fun n => [D.int .i64 n])) (xs' := R.set i [b0 (aJ mT nT K t.facts), .int .i64 (K + bh nT t.facts), br (aJ mI bZ (K + bh nT t.facts + 1) t.goal.xs)]) Z Z Z Z (.rp (.d Z .nil)) (.rp (.d Z .nil)) Z (by simp [hRl]) Z (rC (xs := t.goal.xs) (k := (K + bh nT t.facts + 1)) h1 h2 (by omega) (by omega)).1 (fun _ => by rw [List.length_map]; exact rC (xs := t.goal.xs) h1 h2 (by omega) (by omega)) (fun hys => ?_) Z (by simp [aM]) Z Z Z Z (by simp) ?_))))
 have hy : t.goal.xs = [] := by simpa using hys
 rw [hy]
 exact (qp h1 h2 (k := (K + bh nT t.facts + 1))).plain (by simp [bh, hy])
 refine au ?_
 refine js O Z (jf [1,9,0,5] Z (jn (AWP.region (js O Z ?_))))
 first | refine ji O Z ?_ | refine ba O Z Z Z Z Z ?_
 refine js O Z (jf [5,1,9,0] Z (jn ?_))
 refine ⟨i + 1, Ent.to ⟨Z, ?_, Z, trivial⟩ (by rw [ay, ← hRn]), by omega, by omega⟩
 rw [hcs]
 exact congrArg (fun z => some (eI z)) (by omega)
 try simp only [bi] at hc9
 refine AWP.exit (ag (j2 O Z Z (jn (AWP.ret ?_))))
 refine ⟨.inl Z, _, Ent.refl, _, Z, ?_⟩
 obtain rfl : i = ts.length := by omega
 rw [kq (Nat.le_refl _), List.take_length]
 exact ⟨Z, Z⟩
theorem qT {k : Int} : MQ h1 h2 14 [.c (.d (f8 [])), eI k] [] (Plain (eI k)) := by
 refine av ?_ Z
 refine jB 48 h1 h2 Tryz.func14 Z Z Z fun O hF => ?_
 refine ag (js O Z (jn (AWP.seq (ag (js O Z (jn (AWP.block (az (X := Nat) (fun i => ⟨[(0, .c (.d (f8 []))), (1, eI k), (5, eI 0)], []⟩) (fun i => True) (fun i => 0) 0 (Ent.env ⟨Z, Z, Z, trivial⟩) ?_ (fun i hi => ?_)))))))))
 trivial
 refine AWP.seq (ag (j2 O Z Z ?_))
 first | refine cB O Z Z Z Z Z Z Z Z Z Z Z ?_ | refine js O Z ?_ | refine ba O Z Z Z Z Z ?_
 refine js O Z (jn (AWP.cond O Z Z (fun hc9 => ?_) (fun hc9 => ?_)))
 try simp only [bi] at hc9
 exact absurd hc9 (by simp)
 try simp only [bi] at hc9
 refine AWP.exit (ag (j2 O Z Z (jn (AWP.ret ?_))))
 refine ⟨.inl Z, _, Ent.refl, _, Z, ?_⟩
 first | rfl | skip
theorem sM {ts : List Pth} {k : Int} (hk0 : 0 ≤ k) (hk1 : k + bh dh ts ≤ 1073741824) : MQ h1 h2 14 [.c (.rs 0 0 ts.length), eI k] [(0, ax ts)] (bb (eI (k + bh dh ts)) [(0, ax (aJ f9 dh k ts))]) := by
 refine jH 48 [0] h1 h2 Tryz.func14 Z Z Z Z fun O hF => ?_
 refine fI 0 Z (fun hB => ?_)
 have hl : ts.length ≤ L := by simpa [B.fact] using hB.1
 refine ag (js O Z (jn (AWP.seq (ag (js O Z (jn (AWP.block (az (X := Nat) (fun i => ⟨[(0, .c (.rs 0 0 ts.length)), (1, eI (k + bh dh (ts.take i))), (5, eI i)], [(0, ax (mk f9 dh k i ts))]⟩) (fun i => i ≤ ts.length) (fun i => ts.length - i) 0 (Ent.to ⟨Z, by simp [bN, aq, bh], Z, trivial⟩ (by simp [iL])) ?_ (fun i hi => ?_)))))))))
 exact Nat.zero_le _
 refine AWP.seq (ag (j2 O Z Z ?_))
 first | refine cB O Z Z Z Z Z Z Z Z Z Z Z ?_ | refine js O Z ?_ | refine ba O Z Z Z Z Z ?_
 refine js O Z (jf [9,0,1,5] Z (jn (AWP.cond O Z Z (fun hc9 => ?_) (fun hc9 => ?_))))
 try simp only [bi] at hc9
 refine AWP.skip (AWP.seq (AWP.block (ag ?_)))
 obtain ⟨K, hK⟩ : ∃ K, K = k + (bh dh (ts.take i) : Int) := ⟨_, rfl⟩
 rw [← hK]
 have hcs := eR (sz := dh) (show i < ts.length by omega)
 have hcl := io (sz := dh) (l := ts) (i := i + 1)
 have hg := jh (f := f9) (sz := dh) (k := k) (show i < ts.length by omega)
 have hs := gK (f := f9) (sz := dh) (k := k) (show i < ts.length by omega)
 rw [← aK (show i < ts.length by omega)] at hcs hg hs
 obtain ⟨t, ht⟩ : ∃ t, t = ts.getD i default := ⟨_, rfl⟩
 rw [← ht] at hcs hg hs
 rw [← hK] at hs
 simp only [dh] at hcs
 have hb : K + (2 + bh nT t.facts + bh nT t.ends + t.ev.length : Nat) ≤ 1073741824 := by omega
 obtain ⟨R, hR⟩ : ∃ R, R = (mk f9 dh k i ts).map Pth.cells := ⟨_, rfl⟩
 have hRl : i < R.length := by rw [hR, List.length_map, fB]; omega
 have hRi : R[i]? = some (Pth.cells t) := by rw [hR, List.getElem?_map, hg]; rfl
 have hRn : R.set i (Pth.cells (f9 K t)) = (mk f9 dh k (i + 1) ts).map Pth.cells := by rw [hR, ← hs, List.map_set]
 have e0 : ax (mk f9 dh k i ts) = .row true 5 (R.set i (Pth.cells t)) := by rw [gT hRi, hR]
 rw [e0]
 refine j3 O Z Z Z ?_
 first | refine dS O Z Z Z Z Z Z Z Z Z Z Z ?_ | refine ba O Z Z Z Z Z ?_
 refine js O Z (jf [16,14,9,0,1,5] Z (AOps.heap (bt (ex := [.int .i64 (t.frm), .int .i64 (t.to), b0 (t.facts), b0 (t.ends), br (t.ev)]) (xs' := R.set i [.int .i64 (K), .int .i64 (t.to), b0 (t.facts), b0 (t.ends), br (t.ev)]) O Z Z Z Z Z Z Z Z Z Z Z Z Z Z (by simp [hRl]) (by simp)) Z (au ?_)))
 refine jf [9,0,1,5] Z (aR (js O Z ?_))
 first | refine ji O Z ?_ | refine ba O Z Z Z Z Z ?_
 refine js O Z (jf [1,9,0,5] Z (aR (j3 O Z Z Z ?_)))
 first | refine dS O Z Z Z Z Z Z Z Z Z Z Z ?_ | refine ba O Z Z Z Z Z ?_
 refine js O Z (jf [23,21,1,9,0,5] Z (AOps.heap (bt (ex := [.int .i64 (K), .int .i64 (t.to), b0 (t.facts), b0 (t.ends), br (t.ev)]) (xs' := R.set i [.int .i64 (K), .int .i64 (K + 1), b0 (t.facts), b0 (t.ends), br (t.ev)]) O Z Z Z Z Z Z Z Z Z Z Z Z Z Z (by simp [hRl]) (by simp)) Z (au ?_)))
 refine jf [1,9,0,5] Z (aR (js O Z ?_))
 first | refine ji O Z ?_ | refine ba O Z Z Z Z Z ?_
 refine js O Z (jf [1,9,0,5] Z (aR (j2 O Z Z ?_)))
 first | refine dS O Z Z Z Z Z Z Z Z Z Z Z ?_ | refine ba O Z Z Z Z Z ?_
 refine js O Z (aa (bQ O (ex := [.int .i64 (K), .int .i64 (K + 1), b0 (t.facts), b0 (t.ends), br (t.ev)]) Z Z Z Z (by simp [hRl]) Z) Z Z Z (js O Z (jf [31,30,1,9,0,5] Z (cO O (l := 0) (j := 2) (z := 2) (ex := [.int .i64 (K), .int .i64 (K + 1), b0 (t.facts), b0 (t.ends), br (t.ev)]) (ys := (t.facts).map Tm.cells) (ys' := (aJ mT nT (K + 1 + 1) t.facts).map Tm.cells) (xs' := R.set i [.int .i64 (K), .int .i64 (K + 1), b0 (aJ mT nT (K + 1 + 1) t.facts), b0 (t.ends), br (t.ev)]) Z Z Z Z (.rp (.d Z .nil)) (.rp (.d Z .nil)) Z (by simp [hRl]) Z (rB (ts := t.facts) (k := (K + 1 + 1)) h1 h2 (by omega) (by omega)).1 (fun _ => by rw [List.length_map]; exact rB (ts := t.facts) h1 h2 (by omega) (by omega)) (fun hys => ?_) Z (by simp [aM]) Z Z Z Z (by simp) ?_))))
 have hy : t.facts = [] := by simpa using hys
 rw [hy]
 exact (rP h1 h2 (k := (K + 1 + 1))).plain (by simp [bh, hy])
 refine au ?_
 refine js O Z (jf [1,9,0,5] Z (aR (j2 O Z Z ?_)))
 first | refine dS O Z Z Z Z Z Z Z Z Z Z Z ?_ | refine ba O Z Z Z Z Z ?_
 refine js O Z (aa (bQ O (ex := [.int .i64 (K), .int .i64 (K + 1), b0 (aJ mT nT (K + 1 + 1) t.facts), b0 (t.ends), br (t.ev)]) Z Z Z Z (by simp [hRl]) Z) Z Z Z (js O Z (jf [38,37,1,9,0,5] Z (cO O (l := 0) (j := 3) (z := 2) (ex := [.int .i64 (K), .int .i64 (K + 1), b0 (aJ mT nT (K + 1 + 1) t.facts), b0 (t.ends), br (t.ev)]) (ys := (t.ends).map Tm.cells) (ys' := (aJ mT nT (K + 1 + 1 + bh nT t.facts) t.ends).map Tm.cells) (xs' := R.set i [.int .i64 (K), .int .i64 (K + 1), b0 (aJ mT nT (K + 1 + 1) t.facts), b0 (aJ mT nT (K + 1 + 1 + bh nT t.facts) t.ends), br (t.ev)]) Z Z Z Z (.rp (.d Z .nil)) (.rp (.d Z .nil)) Z (by simp [hRl]) Z (rB (ts := t.ends) (k := (K + 1 + 1 + bh nT t.facts)) h1 h2 (by omega) (by omega)).1 (fun _ => by rw [List.length_map]; exact rB (ts := t.ends) h1 h2 (by omega) (by omega)) (fun hys => ?_) Z (by simp [aM]) Z Z Z Z (by simp) ?_))))
 have hy : t.ends = [] := by simpa using hys
 rw [hy]
 exact (rP h1 h2 (k := (K + 1 + 1 + bh nT t.facts))).plain (by simp [bh, hy])
 refine au ?_
 refine js O Z (jf [1,9,0,5] Z (jn (AWP.region (j2 O Z Z ?_))))
 first | refine dS O Z Z Z Z Z Z Z Z Z Z Z ?_ | refine ba O Z Z Z Z Z ?_
 refine js O Z (aa (bQ O (ex := [.int .i64 (K), .int .i64 (K + 1), b0 (aJ mT nT (K + 1 + 1) t.facts), b0 (aJ mT nT (K + 1 + 1 + bh nT t.facts) t.ends), br (t.ev)]) Z Z Z Z (by simp [hRl]) Z) Z Z Z (js O Z (jf [45,44,1,9,0,5] Z (cO O (l := 0) (j := 4) (z := 1) (ex := [.int .i64 (K), .int .i64 (K + 1), b0 (aJ mT nT (K + 1 + 1) t.facts), b0 (aJ mT nT (K + 1 + 1 + bh nT t.facts) t.ends), br (t.ev)]) (ys := (t.ev).map (fun n => [D.int .i64 n])) (ys' := (aJ mI bZ (K + 1 + 1 + bh nT t.facts + bh nT t.ends) t.ev).map (fun n => [D.int .i64 n])) (xs' := R.set i [.int .i64 (K), .int .i64 (K + 1), b0 (aJ mT nT (K + 1 + 1) t.facts), b0 (aJ mT nT (K + 1 + 1 + bh nT t.facts) t.ends), br (aJ mI bZ (K + 1 + 1 + bh nT t.facts + bh nT t.ends) t.ev)]) Z Z Z Z (.rp (.d Z .nil)) (.rp (.d Z .nil)) Z (by simp [hRl]) Z (rC (xs := t.ev) (k := (K + 1 + 1 + bh nT t.facts + bh nT t.ends)) h1 h2 (by omega) (by omega)).1 (fun _ => by rw [List.length_map]; exact rC (xs := t.ev) h1 h2 (by omega) (by omega)) (fun hys => ?_) Z (by simp [aM]) Z Z Z Z (by simp) ?_))))
 have hy : t.ev = [] := by simpa using hys
 rw [hy]
 exact (qp h1 h2 (k := (K + 1 + 1 + bh nT t.facts + bh nT t.ends))).plain (by simp [bh, hy])
 refine au ?_
 refine js O Z (jf [1,9,0,5] Z (jn (AWP.region (js O Z ?_))))
 first | refine ji O Z ?_ | refine ba O Z Z Z Z Z ?_
 refine js O Z (jf [5,1,9,0] Z (jn ?_))
 refine ⟨i + 1, Ent.to ⟨Z, ?_, Z, trivial⟩ (by rw [ax, ← hRn]), by omega, by omega⟩
 rw [hcs]
 exact congrArg (fun z => some (eI z)) (by omega)
 try simp only [bi] at hc9
 refine AWP.exit (ag (j2 O Z Z (jn (AWP.ret ?_))))
 refine ⟨.inl Z, _, Ent.refl, _, Z, ?_⟩
 obtain rfl : i = ts.length := by omega
 rw [kq (Nat.le_refl _), List.take_length]
 exact ⟨Z, Z⟩
theorem jL {ts : List Sq} {k : Int} (hk0 : 0 ≤ k) (hk1 : k + bh nQ ts ≤ 1073741824) : MQ h1 h2 22 [.c (.d (e7 (aJ mQ nQ k ts))), eI k] [] (Plain (eI (k + bh nQ ts))) := by
 refine av ?_ Z
 refine jB 42 h1 h2 Tryz.func22 Z Z Z fun O hF => ?_
 have hlm := aM (f := mQ) (sz := nQ) (k := k) (l := ts)
 have hl : (aJ mQ nQ k ts).length ≤ L := by simpa [As.fact, A.fact, M.fact, D.fact, Ds.fact] using hF.1.1
 refine ag (js O Z (jn (AWP.seq (ag (js O Z (jn (AWP.block (az (X := Nat) (fun i => ⟨[(0, .c (.d (e7 (aJ mQ nQ k ts)))), (1, eI (k + bh nQ (ts.take i))), (5, eI i)], []⟩) (fun i => i ≤ ts.length) (fun i => ts.length - i) 0 (Ent.env ⟨Z, by simp [bN, aq, bh], Z, trivial⟩) ?_ (fun i hi => ?_)))))))))
 exact Nat.zero_le _
 refine AWP.seq (ag (j2 O Z Z ?_))
 first | refine cB O Z Z Z Z Z Z Z Z Z Z Z ?_ | refine js O Z ?_ | refine ba O Z Z Z Z Z ?_
 refine js O Z (jf [9,0,1,5] Z (jn (AWP.cond O Z Z (fun hc9 => ?_) (fun hc9 => ?_))))
 refine AWP.skip (AWP.seq (AWP.block (ag ?_)))
 have hil : i < ts.length := by have h9 := of_decide_eq_true hc9; omega
 have hg := fX (f := mQ) (sz := nQ) (k := k) hil
 have hcs := eR (sz := nQ) hil
 have hcl := io (sz := nQ) (l := ts) (i := i + 1)
 rw [← aK hil] at hcs
 obtain ⟨t, ht⟩ : ∃ t, t = ts.getD i default := ⟨_, rfl⟩
 rw [← ht] at hg hcs
 simp only [nQ] at hcs
 obtain ⟨K, hK⟩ : ∃ K, K = k + (bh nQ (ts.take i) : Int) := ⟨_, rfl⟩
 rw [← hK] at hg ⊢
 refine j2 O Z Z (aa ((aB O Z Z Z Z Z Z Z Z (ct (by omega))).cast (v' := ptr (Sq.cells (mQ K t))) (by rw [hg])) Z Z Z (j3 O Z Z Z (jf [17,16,9,0,1,5] Z (ae O Z Z Z Z (vZ (ts := t.facts) (k := K) h1 h2 (by omega) (by omega)) (ab Z) Z Z Z Z Z (B0 := 19000) Z (js O Z (jf [1,9,0,5] Z (jn (AWP.seq (ag (j2 O Z Z (jn (AWP.cond O Z Z (fun hc20 => ?_) (fun hc20 => ?_)))))))))))))
 exact absurd (of_decide_eq_true hc20) (by omega)
 refine AWP.skip (AWP.seq (ag (j2 O Z Z (aa ((aB O Z Z Z Z Z Z Z Z (ct (by omega))).cast (v' := ptr (Sq.cells (mQ K t))) (by rw [hg])) Z Z Z (j4 O Z Z Z Z (js O Z (jf [28,20,19,1,9,0,5] Z (jn (AWP.cond O Z Z (fun hc28 => ?_) (fun hc28 => ?_))))))))))
 exact absurd hc28 (by simp)
 refine AWP.skip (ag (js O Z ?_))
 first | refine ji O Z ?_ | refine ba O Z Z Z Z Z ?_
 refine js O Z (jf [1,28,20,19,9,0,5] Z (aR (j2 O Z Z (aa ((aB O Z Z Z Z Z Z Z Z (ct (by omega))).cast (v' := ptr (Sq.cells (mQ K t))) (by rw [hg])) Z Z Z (j4 O Z Z Z Z (jf [37,36,1,28,20,19,9,0,5] Z (ae O Z Z Z Z ((v9 (xs := aJ mI bZ ((K + bh nT t.facts + 1)) t.goal.xs) (k := (K + bh nT t.facts + 1)) h1 h2 (by omega) (by omega)).plain (congrArg eI (iv t.goal.xs ((K + bh nT t.facts + 1))))) (ab Z) Z Z Z Z Z (B0 := 39000) Z (js O Z (jf [1,28,20,19,9,0,5] Z (aR (j2 O Z Z (jn (AWP.cond O Z Z (fun hc40 => ?_) (fun hc40 => ?_))))))))))))))
 exact absurd (of_decide_eq_true hc40) (by omega)
 refine AWP.skip (AWP.region (js O Z ?_))
 first | refine ji O Z ?_ | refine ba O Z Z Z Z Z ?_
 refine js O Z (jf [5,40,39,1,28,20,19,9,0] Z (jn ?_))
 refine ⟨i + 1, Ent.env ⟨Z, ?_, Z, trivial⟩, by omega, by omega⟩
 rw [hcs]
 exact congrArg (fun z => some (eI z)) (by omega)
 refine AWP.exit (ag (j2 O Z Z (jn (AWP.ret ?_))))
 refine ⟨.inl Z, _, Ent.refl, _, Z, ?_⟩
 have h9 := of_decide_eq_false hc9
 obtain rfl : i = ts.length := by omega
 rw [List.take_length]
theorem jM {ts : List Pth} {k : Int} (hk0 : 0 ≤ k) (hk1 : k + bh dh ts ≤ 1073741824) : MQ h1 h2 15 [.c (.d (f8 (aJ f9 dh k ts))), eI k] [] (Plain (eI (k + bh dh ts))) := by
 refine av ?_ Z
 refine jB 58 h1 h2 Tryz.func15 Z Z Z fun O hF => ?_
 have hlm := aM (f := f9) (sz := dh) (k := k) (l := ts)
 have hl : (aJ f9 dh k ts).length ≤ L := by simpa [As.fact, A.fact, M.fact, D.fact, Ds.fact] using hF.1.1
 refine ag (js O Z (jn (AWP.seq (ag (js O Z (jn (AWP.block (az (X := Nat) (fun i => ⟨[(0, .c (.d (f8 (aJ f9 dh k ts)))), (1, eI (k + bh dh (ts.take i))), (5, eI i)], []⟩) (fun i => i ≤ ts.length) (fun i => ts.length - i) 0 (Ent.env ⟨Z, by simp [bN, aq, bh], Z, trivial⟩) ?_ (fun i hi => ?_)))))))))
 exact Nat.zero_le _
 refine AWP.seq (ag (j2 O Z Z ?_))
 first | refine cB O Z Z Z Z Z Z Z Z Z Z Z ?_ | refine js O Z ?_ | refine ba O Z Z Z Z Z ?_
 refine js O Z (jf [9,0,1,5] Z (jn (AWP.cond O Z Z (fun hc9 => ?_) (fun hc9 => ?_))))
 refine AWP.skip (AWP.seq (AWP.block (AWP.seq (ag ?_))))
 have hil : i < ts.length := by have h9 := of_decide_eq_true hc9; omega
 have hg := fX (f := f9) (sz := dh) (k := k) hil
 have hcs := eR (sz := dh) hil
 have hcl := io (sz := dh) (l := ts) (i := i + 1)
 rw [← aK hil] at hcs
 obtain ⟨t, ht⟩ : ∃ t, t = ts.getD i default := ⟨_, rfl⟩
 rw [← ht] at hg hcs
 simp only [dh] at hcs
 obtain ⟨K, hK⟩ : ∃ K, K = k + (bh dh (ts.take i) : Int) := ⟨_, rfl⟩
 rw [← hK] at hg ⊢
 refine j2 O Z Z (aa ((aB O Z Z Z Z Z Z Z Z (ct (by omega))).cast (v' := ptr (Pth.cells (f9 K t))) (by rw [hg])) Z Z Z (j4 O Z Z Z Z (jf [18,9,0,1,5] Z (jn (AWP.cond O Z Z (fun hc18 => ?_) (fun hc18 => ?_))))))
 exact absurd hc18 (by simp)
 refine AWP.skip (ag (js O Z ?_))
 first | refine ji O Z ?_ | refine ba O Z Z Z Z Z ?_
 refine js O Z (jf [1,18,9,0,5] Z (jn (AWP.seq (ag (j2 O Z Z (aa ((aB O Z Z Z Z Z Z Z Z (ct (by omega))).cast (v' := ptr (Pth.cells (f9 K t))) (by rw [hg])) Z Z Z (j4 O Z Z Z Z (jf [27,1,18,9,0,5] Z (jn (AWP.cond O Z Z (fun hc27 => ?_) (fun hc27 => ?_)))))))))))
 exact absurd hc27 (by simp)
 refine AWP.skip (ag (js O Z ?_))
 first | refine ji O Z ?_ | refine ba O Z Z Z Z Z ?_
 refine js O Z (jf [1,27,18,9,0,5] Z (aR (j2 O Z Z (aa ((aB O Z Z Z Z Z Z Z Z (ct (by omega))).cast (v' := ptr (Pth.cells (f9 K t))) (by rw [hg])) Z Z Z (j3 O Z Z Z (jf [35,34,1,27,18,9,0,5] Z (ae O Z Z Z Z (vZ (ts := t.facts) (k := (K + 1 + 1)) h1 h2 (by omega) (by omega)) (ab Z) Z Z Z Z Z (B0 := 37000) Z (js O Z (jf [1,27,18,9,0,5] Z (jn (AWP.seq (ag (j2 O Z Z ?_)))))))))))))
 refine jn (AWP.cond O Z Z (fun hc38 => ?_) (fun hc38 => ?_))
 exact absurd (of_decide_eq_true hc38) (by omega)
 refine AWP.skip (ag (j2 O Z Z (aa ((aB O Z Z Z Z Z Z Z Z (ct (by omega))).cast (v' := ptr (Pth.cells (f9 K t))) (by rw [hg])) Z Z Z (j3 O Z Z Z (jf [44,43,38,37,1,27,18,9,0,5] Z (ae O Z Z Z Z (vZ (ts := t.ends) (k := (K + 1 + 1 + bh nT t.facts)) h1 h2 (by omega) (by omega)) (ab Z) Z Z Z Z Z (B0 := 46000) Z (js O Z (jf [1,38,37,27,18,9,0,5] Z (jn (AWP.seq (ag (j2 O Z Z (jn ?_)))))))))))))
 refine AWP.cond O Z Z (fun hc47 => ?_) (fun hc47 => ?_)
 exact absurd (of_decide_eq_true hc47) (by omega)
 refine AWP.skip (ag (j2 O Z Z (aa ((aB O Z Z Z Z Z Z Z Z (ct (by omega))).cast (v' := ptr (Pth.cells (f9 K t))) (by rw [hg])) Z Z Z (j3 O Z Z Z (jf [53,52,47,46,1,38,37,27,18,9,0,5] Z (ae O Z Z Z Z ((v9 (xs := aJ mI bZ ((K + 1 + 1 + bh nT t.facts + bh nT t.ends)) t.ev) (k := (K + 1 + 1 + bh nT t.facts + bh nT t.ends)) h1 h2 (by omega) (by omega)).plain (congrArg eI (iv t.ev ((K + 1 + 1 + bh nT t.facts + bh nT t.ends))))) (ab Z) Z Z Z Z Z (B0 := 55000) Z (js O Z (jf [1,47,46,38,37,27,18,9,0,5] Z (aR (j2 O Z Z (jn (AWP.cond O Z Z (fun hc56 => ?_) (fun hc56 => ?_)))))))))))))
 exact absurd (of_decide_eq_true hc56) (by omega)
 refine AWP.skip (AWP.region (js O Z ?_))
 first | refine ji O Z ?_ | refine ba O Z Z Z Z Z ?_
 refine js O Z (jf [5,56,55,1,47,46,38,37,27,18,9,0] Z (jn ?_))
 refine ⟨i + 1, Ent.env ⟨Z, ?_, Z, trivial⟩, by omega, by omega⟩
 rw [hcs]
 exact congrArg (fun z => some (eI z)) (by omega)
 refine AWP.exit (ag (j2 O Z Z (jn (AWP.ret ?_))))
 refine ⟨.inl Z, _, Ent.refl, _, Z, ?_⟩
 have h9 := of_decide_eq_false hc9
 obtain rfl : i = ts.length := by omega
 rw [List.take_length]
theorem eg {L : Nat} (h1 : 4096 ≤ L) (h2 : L ≤ 1073741824) {p : Pm} : MC Tryz.prog L 9 [aPm p] [] (Plain (aPm p)) := (rG h1 h2).frozen (.v (.agg (.cons (.whole rfl (List.length_map _).symm) (.cons (.whole rfl (List.length_map _).symm) (.cons (.whole rfl (List.length_map _).symm) .nil)))))
theorem ua {p : Pm} {n : Int} {r : List Pth} {m0 : Nat} (hm0 : m0 = r.length) (hcc : 1 + bh dh r ≤ (1073741824 : Int)) (cs : MQ h1 h2 8 [aPm p, eI n] [] (Plain (.tup [o0 r, eB true]))) (ci : MQ h1 h2 10 [aPm p, eI n] [] (Rows (.tup [.c (.rs 0 0 m0), eB true]) [ax r])) (hz1 : 0 ≤ dF 1048576 (Al.szs Tm.size p.pre + Al.szs Sm.size p.body + Al.szs Tm.size p.post)) (hcp : 1 + bh nT p.pre + bh nS p.body + bh nT p.post ≤ (1073741824 : Int)) : MQ h1 h2 3 [aPm p, eI n] [] (Plain (eB true)) := by
 refine av ?_ Z
 refine jB 101 h1 h2 Tryz.func3 Z Z Z fun O hF => ?_
 subst hm0
 have hbig : L ≤ 9223372036854775807 := Nat.le_trans h2 (by decide)
 refine ag (jx O Z Z Z Z Z Z Z Z (au ?_))
 refine js O Z (aR (js O Z (aR (j2 O Z Z (ae O Z Z Z Z (c8 (p := p) (left := 1048576) h1 hbig (by decide) (by decide)) (ab Z) Z Z Z Z Z (B0 := 19000) Z (js O Z (jf [5,4,2,0,1] Z (jn (AWP.seq (ag (j2 O Z Z (jn (AWP.cond O Z Z (fun hc20 => ?_) (fun hc20 => ?_))))))))))))))
 exact absurd (of_decide_eq_true hc20) (by omega)
 refine AWP.skip (ag (js O Z (jf [22,19,5,4,2,0,1] Z (ao O Z Z Z Z (eg (p := p) h1 h2) (ab Z) Z Z Z Z (B0 := 24000) Z Z (js O Z (jf [24,23,19,5,4,2,0,1] Z (ao O Z Z Z Z (cs) (ab Z) Z Z Z Z (B0 := 26000) Z Z (j4 O Z Z Z Z (js O Z (jf [7,6,19,5,4,2,0,1] Z (aR (js O Z (aW O (B0 := 30000) Z Z Z Z (rG (p := p) h1 h2) (ab Z) Z Z Z Z Z Z ?_)))))))))))))
 refine au ?_
 refine jf [29,7,6,19,5,4,2,0,1] Z (jl O Z Z Z Z Z Z (au ?_))
 refine jo O Z Z Z Z Z Z Z Z Z Z Z Z (au ?_)
 refine aR (j2 O Z Z (aW O (B0 := 34000) Z Z Z Z (ci) (.cons (.agg (.cons (.whole Z (List.length_map _).symm) (.cons (.whole Z (List.length_map _).symm) (.cons (.whole Z (List.length_map _).symm) .nil)))) (.cons (.c .d) .nil)) Z Z Z Z Z Z (au ?_)))
 refine j4 O Z Z Z Z (js O Z (jf [10,9,8,29,7,6,19,5,4,2,0,1] Z (jn (AWP.seq (ag (j2 O Z Z (ae O Z Z Z Z ((f6 (xs := r) (ys := r) h1 h2).plain (u := eB true) (by simp)) (.cons (.c (.whole Z (List.length_map _).symm)) (.cons (.c .d) .nil)) Z Z Z Z Z (B0 := 39000) Z (j2 O Z Z (jf [40,10,9,8,29,7,6,19,5,4,2,0,1] Z (ah Z Z Z Z Z (js O Z (ah Z Z Z Z Z (js O Z ?_)))))))))))))
 refine ah Z Z Z Z Z (js O Z (aa (aZ O Z Z Z Z Z) Z Z Z (jf [44,10,9,8,29,7,6,19,5,4,2,0,1] Z (jn (AWP.cond O Z Z (fun hc44 => ?_) (fun hc44 => ?_))))))
 exact absurd (show false = true from hc44) (by decide)
 refine AWP.skip (AWP.seq (AWP.seq (jw [10,9,8,29,7,6,19,5,4,2,0,1] Z (f7 O [_,_,_,_,_] [pn [] 0 1, pn [] 0 0, pe [1] 0, pe [0,1,2] 1, pn [0,1,2,3] 2 2] [2,3] [_,_,_] (ai (kc O Z (V O Z)) (kc O Z (ai (bl O (B0 := 48000) Z Z Z Z (eg (p := p) h1 h2) (ab Z) Z Z Z Z Z) (ai (cd O (B0 := 49000) Z Z Z Z ((si (s := p) (t := p) h1 h2).plain (u := eB true) (by simp)) (.cons (.agg (.cons (.whole Z (List.length_map _).symm) (.cons (.whole Z (List.length_map _).symm) (.cons (.whole Z (List.length_map _).symm) .nil)))) (.cons (.agg (aw Z)) .nil)) Z Z Z Z Z) (kc O Z trivial))))) ?_))))
 refine jw [49,10,9,8,29,7,6,19,5,4,2,0,1] Z (ce ?_)
 refine AWP.cond O Z Z (fun hc49 => ?_) (fun hc49 => ?_)
 exact absurd (show false = true from hc49) (by decide)
 refine AWP.skip (ag (js O Z (aR (j2 O Z Z (jf [51,50,11,10,9,8,29,7,6,19,5,4,2,0,1] Z (ap O [30000,30001,30002] (bin := [dg p.pre, fm p.body, dg p.post]) Z Z Z Z (sg (p := p) (k := 1) h1 h2 (by decide) (by omega)) Z Z Z Z Z Z (B0 := 53000) Z Z (au ?_)))))))
 refine js O Z (jf [11,10,9,8,29,7,6,19,5,4,2,0,1] Z (jn (AWP.seq (ag (j2 O Z Z ?_)))))
 rw [decide_eq_false (show ¬ (1 + bh nT p.pre + bh nS p.body + bh nT p.post : Int) < 0 by omega)]
 refine js O Z (jf [55,11,10,9,8,29,7,6,19,5,4,2,0,1] Z (ah Z Z Z Z Z (js O Z (ah Z Z Z Z Z (js O Z (ah Z Z Z Z Z (ae O Z Z Z Z ((f6 (xs := r) (ys := r) h1 h2).plain (u := eB true) (by simp)) (.cons (.c (.whole Z (List.length_map _).symm)) (.cons (.c .d) .nil)) Z Z Z Z Z (B0 := 59000) Z (jf [58,55,11,10,9,8,29,7,6,19,5,4,2,0,1] Z (ah Z Z Z Z Z (js O Z (aa (aZ O Z Z Z Z Z) Z Z Z (js O Z (jf [61,11,10,9,8,29,7,6,19,5,4,2,0,1] Z ?_)))))))))))))
 refine ah Z Z Z Z Z (js O Z (ah Z Z Z Z Z (js O Z (ah Z Z Z Z Z (js O Z (aa (aZ O Z Z Z Z Z) Z Z Z (jf [65,11,10,9,8,29,7,6,19,5,4,2,0,1] Z (jn (AWP.cond O Z Z (fun hc65 => ?_) (fun hc65 => ?_))))))))))
 exact absurd (show false = true from hc65) (by decide)
 refine AWP.skip (ag (js O Z (aR (j2 O Z Z (jf [67,66,12,11,10,9,8,29,7,6,19,5,4,2,0,1] Z (ap O [34000] (bin := [ax r]) Z Z Z Z (sM (ts := r) (k := 1) h1 h2 (by decide) (by omega)) Z Z Z Z Z Z (B0 := 69000) Z Z (au ?_)))))))
 refine js O Z (jf [12,11,10,9,8,29,7,6,19,5,4,2,0,1] Z (aR (js O Z (aR (j2 O Z Z (ae O Z Z Z Z (jM (ts := r) (k := 1) h1 h2 (by decide) (by omega)) (.cons (.c (.whole Z (by rw [List.length_map, aM]))) (.cons (.c .d) .nil)) Z Z Z Z Z (B0 := 72000) Z (js O Z (jf [13,12,11,10,9,8,29,7,6,19,5,4,2,0,1] Z (jn (AWP.seq (ag (j2 O Z Z (jn ?_)))))))))))))
 refine AWP.cond O Z Z (fun hc73 => ?_) (fun hc73 => ?_)
 exact absurd (of_decide_eq_true hc73) (by omega)
 refine AWP.skip (AWP.seq (ag (j3 O Z Z Z (jf [76,72,13,12,11,10,9,8,29,7,6,19,5,4,2,0,1] Z (jn (AWP.cond O Z Z (fun hc76 => ?_) (fun hc76 => ?_)))))))
 exact absurd hc76 (by simp)
 refine AWP.skip (ag (js O Z (jf [78,72,13,12,11,10,9,8,29,7,6,19,5,4,2,0,1] Z (ao O Z Z Z Z (eg (p := p) h1 h2) (ab Z) Z Z Z Z (B0 := 80000) Z Z (js O Z (jf [80,79,72,13,12,11,10,9,8,29,7,6,19,5,4,2,0,1] Z (aW O (B0 := 82000) Z Z Z Z (ci) (ab Z) Z Z Z Z Z Z (au ?_))))))))
 refine j4 O Z Z Z Z (js O Z (jf [15,14,72,13,12,11,10,9,8,29,7,6,19,5,4,2,0,1] Z (jn (AWP.seq (ag (j2 O Z Z (jf [85,84,15,72,13,12,11,10,9,8,29,7,6,19,5,4,2,0,1] Z (ae O Z Z Z Z ((f6 (xs := r) (ys := r) h1 h2).plain (u := eB true) (by simp)) (.cons (.c (.whole Z (List.length_map _).symm)) (.cons (.c .d) .nil)) Z Z Z Z Z (B0 := 87000) Z (j2 O Z Z (jf [88,15,72,13,12,11,10,9,8,29,7,6,19,5,4,2,0,1] Z (ah Z Z Z Z Z (js O Z (jf [89,88,72,13,12,11,10,9,8,29,7,6,19,5,4,2,0,1] Z ?_)))))))))))))
 refine ah Z Z Z Z Z (js O Z (ah Z Z Z Z Z (js O Z (aa (aZ O Z Z Z Z Z) Z Z Z (jf [92,72,13,12,11,10,9,8,29,7,6,19,5,4,2,0,1] Z (jn (AWP.cond O Z Z (fun hc92 => ?_) (fun hc92 => ?_))))))))
 exact absurd (show false = true from hc92) (by decide)
 refine AWP.skip (ag (js O Z (aR (j2 O Z Z (jf [94,93,13,72,12,11,10,9,8,29,7,6,19,5,4,2,0,1] Z (ae O Z Z Z Z (jM (ts := r) (k := 1) h1 h2 (by decide) (by omega)) (.cons (.c (.whole Z (by rw [List.length_map, aM]))) (.cons (.c .d) .nil)) Z Z Z Z Z (B0 := 96000) Z (js O Z (jf [13,72,12,11,10,9,8,29,7,6,19,5,4,2,0,1] Z (jn (AWP.seq (ag (j2 O Z Z (jn ?_)))))))))))))
 refine AWP.cond O Z Z (fun hc97 => ?_) (fun hc97 => ?_)
 exact absurd (of_decide_eq_true hc97) (by omega)
 refine AWP.skip (AWP.seq (ag (j3 O Z Z Z (jf [100,96,13,72,12,11,10,9,8,29,7,6,19,5,4,2,0,1] Z (jn (AWP.cond O Z Z (fun hc100 => ?_) (fun hc100 => ?_)))))))
 exact absurd hc100 (by simp)
 refine AWP.skip (ag (js O Z (jn (AWP.ret ?_))))
 refine ⟨.inl Z, _, Ent.refl, _, Z, ?_⟩
 rfl
theorem nR {p : Pm} {n : Int} (cs : MQ h1 h2 8 [aPm p, eI n] [] (Plain (.tup [o0 ([] : List Pth), eB false]))) (ci : MQ h1 h2 10 [aPm p, eI n] [] (Rows (.tup [.c (.d .nils), eB false]) [])) (hz1 : 0 ≤ dF 1048576 (Al.szs Tm.size p.pre + Al.szs Sm.size p.body + Al.szs Tm.size p.post)) (hcp : 1 + bh nT p.pre + bh nS p.body + bh nT p.post ≤ (1073741824 : Int)) : MQ h1 h2 3 [aPm p, eI n] [] (Plain (eB true)) := by
 refine av ?_ Z
 refine jB 101 h1 h2 Tryz.func3 Z Z Z fun O hF => ?_
 have hbig : L ≤ 9223372036854775807 := Nat.le_trans h2 (by decide)
 refine ag (jx O Z Z Z Z Z Z Z Z (au ?_))
 refine js O Z (aR (js O Z (aR (j2 O Z Z (ae O Z Z Z Z (c8 (p := p) (left := 1048576) h1 hbig (by decide) (by decide)) (ab Z) Z Z Z Z Z (B0 := 19000) Z (js O Z (jf [5,4,2,0,1] Z (jn (AWP.seq (ag (j2 O Z Z (jn (AWP.cond O Z Z (fun hc20 => ?_) (fun hc20 => ?_))))))))))))))
 exact absurd (of_decide_eq_true hc20) (by omega)
 refine AWP.skip (ag (js O Z (jf [22,19,5,4,2,0,1] Z (ao O Z Z Z Z (eg (p := p) h1 h2) (ab Z) Z Z Z Z (B0 := 24000) Z Z (js O Z (jf [24,23,19,5,4,2,0,1] Z (ao O Z Z Z Z (cs) (ab Z) Z Z Z Z (B0 := 26000) Z Z (j4 O Z Z Z Z (js O Z (jf [7,6,19,5,4,2,0,1] Z (aR (js O Z (aW O (B0 := 30000) Z Z Z Z (rG (p := p) h1 h2) (ab Z) Z Z Z Z Z Z ?_)))))))))))))
 refine au ?_
 refine jf [29,7,6,19,5,4,2,0,1] Z (jl O Z Z Z Z Z Z (au ?_))
 refine jo O Z Z Z Z Z Z Z Z Z Z Z Z (au ?_)
 refine aR (j2 O Z Z (aW O (B0 := 34000) Z Z Z Z (ci) (.cons (.agg (.cons (.whole Z (List.length_map _).symm) (.cons (.whole Z (List.length_map _).symm) (.cons (.whole Z (List.length_map _).symm) .nil)))) (.cons (.c .d) .nil)) Z Z Z Z Z Z (au ?_)))
 refine j4 O Z Z Z Z (js O Z (jf [10,9,8,29,7,6,19,5,4,2,0,1] Z (jn (AWP.seq (ag (j2 O Z Z (ae O Z Z Z Z ((f6 (xs := ([] : List Pth)) (ys := ([] : List Pth)) h1 h2).plain (u := eB true) (by simp)) (.cons (.c .nils) (.cons (.c .d) .nil)) Z Z Z Z Z (B0 := 39000) Z (j2 O Z Z (jf [40,10,9,8,29,7,6,19,5,4,2,0,1] Z (ah Z Z Z Z Z (js O Z (ah Z Z Z Z Z (js O Z ?_)))))))))))))
 refine ah Z Z Z Z Z (js O Z (aa (aZ O Z Z Z Z Z) Z Z Z (jf [44,10,9,8,29,7,6,19,5,4,2,0,1] Z (jn (AWP.cond O Z Z (fun hc44 => ?_) (fun hc44 => ?_))))))
 exact absurd (show false = true from hc44) (by decide)
 refine AWP.skip (AWP.seq (AWP.seq (jw [10,9,8,29,7,6,19,5,4,2,0,1] Z (f7 O [_,_,_,_,_] [pn [] 0 1, pn [] 0 0, pe [1] 0, pe [0,1,2] 1, pn [0,1,2,3] 2 2] [2,3] [_,_,_] (ai (kc O Z (V O Z)) (kc O Z (ai (bl O (B0 := 48000) Z Z Z Z (eg (p := p) h1 h2) (ab Z) Z Z Z Z Z) (ai (cd O (B0 := 49000) Z Z Z Z ((si (s := p) (t := p) h1 h2).plain (u := eB true) (by simp)) (.cons (.agg (.cons (.whole Z (List.length_map _).symm) (.cons (.whole Z (List.length_map _).symm) (.cons (.whole Z (List.length_map _).symm) .nil)))) (.cons (.agg (aw Z)) .nil)) Z Z Z Z Z) (kc O Z trivial))))) ?_))))
 refine jw [49,10,9,8,29,7,6,19,5,4,2,0,1] Z (ce ?_)
 refine AWP.cond O Z Z (fun hc49 => ?_) (fun hc49 => ?_)
 exact absurd (show false = true from hc49) (by decide)
 refine AWP.skip (ag (js O Z (aR (j2 O Z Z (jf [51,50,11,10,9,8,29,7,6,19,5,4,2,0,1] Z (ap O [30000,30001,30002] (bin := [dg p.pre, fm p.body, dg p.post]) Z Z Z Z (sg (p := p) (k := 1) h1 h2 (by decide) (by omega)) Z Z Z Z Z Z (B0 := 53000) Z Z (au ?_)))))))
 refine js O Z (jf [11,10,9,8,29,7,6,19,5,4,2,0,1] Z (jn (AWP.seq (ag (j2 O Z Z ?_)))))
 rw [decide_eq_false (show ¬ (1 + bh nT p.pre + bh nS p.body + bh nT p.post : Int) < 0 by omega)]
 refine js O Z (jf [55,11,10,9,8,29,7,6,19,5,4,2,0,1] Z (ah Z Z Z Z Z (js O Z (ah Z Z Z Z Z (js O Z (ah Z Z Z Z Z (ae O Z Z Z Z ((f6 (xs := ([] : List Pth)) (ys := ([] : List Pth)) h1 h2).plain (u := eB true) (by simp)) (.cons (.c .nils) (.cons (.c .d) .nil)) Z Z Z Z Z (B0 := 59000) Z (jf [58,55,11,10,9,8,29,7,6,19,5,4,2,0,1] Z (ah Z Z Z Z Z (js O Z (aa (aZ O Z Z Z Z Z) Z Z Z (js O Z (jf [61,11,10,9,8,29,7,6,19,5,4,2,0,1] Z ?_)))))))))))))
 refine ah Z Z Z Z Z (js O Z (ah Z Z Z Z Z (js O Z (ah Z Z Z Z Z (js O Z (aa (aZ O Z Z Z Z Z) Z Z Z (jf [65,11,10,9,8,29,7,6,19,5,4,2,0,1] Z (jn (AWP.cond O Z Z (fun hc65 => ?_) (fun hc65 => ?_))))))))))
 exact absurd (show false = true from hc65) (by decide)
 refine AWP.skip (ag (js O Z (aR (j2 O Z Z (jf [67,66,12,11,10,9,8,29,7,6,19,5,4,2,0,1] Z (ae O Z Z Z Z (qT (k := 1) h1 h2) (.cons (.c .nils) (.cons (.c .d) .nil)) Z Z Z Z Z (B0 := 69000) Z (js O Z (jf [12,11,10,9,8,29,7,6,19,5,4,2,0,1] Z (aR (js O Z (aR (j2 O Z Z (ae O Z Z Z Z ((jM (ts := ([] : List Pth)) (k := 1) h1 h2 (by decide) (by decide)).plain (u := eI 1) Z) (.cons (.c .nils) (.cons (.c .d) .nil)) Z Z Z Z Z (B0 := 72000) Z ?_)))))))))))))
 refine js O Z (jf [13,12,11,10,9,8,29,7,6,19,5,4,2,0,1] Z (jn (AWP.seq (ag (j2 O Z Z (jn (AWP.cond O Z Z (fun hc73 => ?_) (fun hc73 => ?_))))))))
 exact absurd (of_decide_eq_true hc73) (by decide)
 refine AWP.skip (AWP.seq (ag (j3 O Z Z Z (jf [76,72,13,12,11,10,9,8,29,7,6,19,5,4,2,0,1] Z (jn (AWP.cond O Z Z (fun hc76 => ?_) (fun hc76 => ?_)))))))
 exact absurd hc76 (by simp)
 refine AWP.skip (ag (js O Z (jf [78,72,13,12,11,10,9,8,29,7,6,19,5,4,2,0,1] Z (ao O Z Z Z Z (eg (p := p) h1 h2) (ab Z) Z Z Z Z (B0 := 80000) Z Z (js O Z (jf [80,79,72,13,12,11,10,9,8,29,7,6,19,5,4,2,0,1] Z (aW O (B0 := 82000) Z Z Z Z (ci) (ab Z) Z Z Z Z Z Z (au ?_))))))))
 refine j4 O Z Z Z Z (js O Z (jf [15,14,72,13,12,11,10,9,8,29,7,6,19,5,4,2,0,1] Z (jn (AWP.seq (ag (j2 O Z Z (jf [85,84,15,72,13,12,11,10,9,8,29,7,6,19,5,4,2,0,1] Z (ae O Z Z Z Z ((f6 (xs := ([] : List Pth)) (ys := ([] : List Pth)) h1 h2).plain (u := eB true) (by simp)) (.cons (.c .nils) (.cons (.c .d) .nil)) Z Z Z Z Z (B0 := 87000) Z (j2 O Z Z (jf [88,15,72,13,12,11,10,9,8,29,7,6,19,5,4,2,0,1] Z (ah Z Z Z Z Z (js O Z (jf [89,88,72,13,12,11,10,9,8,29,7,6,19,5,4,2,0,1] Z ?_)))))))))))))
 refine ah Z Z Z Z Z (js O Z (ah Z Z Z Z Z (js O Z (aa (aZ O Z Z Z Z Z) Z Z Z (jf [92,72,13,12,11,10,9,8,29,7,6,19,5,4,2,0,1] Z (jn (AWP.cond O Z Z (fun hc92 => ?_) (fun hc92 => ?_))))))))
 exact absurd (show false = true from hc92) (by decide)
 refine AWP.skip (ag (js O Z (aR (j2 O Z Z (jf [94,93,13,72,12,11,10,9,8,29,7,6,19,5,4,2,0,1] Z (ae O Z Z Z Z ((jM (ts := ([] : List Pth)) (k := 1) h1 h2 (by decide) (by decide)).plain (u := eI 1) Z) (.cons (.c .nils) (.cons (.c .d) .nil)) Z Z Z Z Z (B0 := 96000) Z (js O Z (jf [13,72,12,11,10,9,8,29,7,6,19,5,4,2,0,1] Z (jn (AWP.seq (ag (j2 O Z Z (jn ?_)))))))))))))
 refine AWP.cond O Z Z (fun hc97 => ?_) (fun hc97 => ?_)
 exact absurd (of_decide_eq_true hc97) (by decide)
 refine AWP.skip (AWP.seq (ag (j3 O Z Z Z (jf [100,96,13,72,12,11,10,9,8,29,7,6,19,5,4,2,0,1] Z (jn (AWP.cond O Z Z (fun hc100 => ?_) (fun hc100 => ?_)))))))
 exact absurd hc100 (by simp)
 refine AWP.skip (ag (js O Z (jn (AWP.ret ?_))))
 refine ⟨.inl Z, _, Ent.refl, _, Z, ?_⟩
 rfl
theorem ub {L : Nat} (h1 : 4096 ≤ L) (h2 : L ≤ 9223372036854775807) {p : Pm} {n : Int} (hz : dF 1048576 (Al.szs Tm.size p.pre + Al.szs Sm.size p.body + Al.szs Tm.size p.post) < 0) : MC Tryz.prog L 3 [aPm p, eI n] [] (Plain (eB true)) := by
 refine av ?_ Z
 have O := j8 (nt := 101) h1 h2
 refine MC.body O Tryz.func3 (by kernel_rfl) Z Z (Nat.le_of_ble_eq_true Z) (fun hF => ?_)
 refine ag (jx O Z Z Z Z Z Z Z Z (au ?_))
 refine js O Z (aR (js O Z (aR (j2 O Z Z (ae O Z Z Z Z (c8 (p := p) (left := 1048576) h1 h2 (by decide) (by decide)) (ab Z) Z Z Z Z Z (B0 := 19000) Z (js O Z (jf [5,4,2,0,1] Z (jn (AWP.seq (ag (j2 O Z Z (jn (AWP.cond O Z Z (fun hc20 => ?_) (fun hc20 => ?_))))))))))))))
 refine ag (js O Z (jn (AWP.ret ?_)))
 refine ⟨.inl Z, _, Ent.refl, _, Z, ?_⟩
 rfl
 exact absurd (of_decide_eq_false hc20) (fun h => h hz)
theorem t8 {p : Pm} {r : List Pth} {m0 : Nat} (hm0 : m0 = r.length) (hcc : 1 + bh dh r ≤ (1073741824 : Int)) (cs : MQ h1 h2 16 [aPm p] [] (Plain (.tup [o0 r, eB true]))) (ci : MQ h1 h2 17 [aPm p] [] (Rows (.tup [.c (.rs 0 0 m0), eB true]) [ax r])) (hz1 : 0 ≤ dF 1048576 (Al.szs Tm.size p.pre + Al.szs Sm.size p.body + Al.szs Tm.size p.post)) (hcp : 1 + bh nT p.pre + bh nS p.body + bh nT p.post ≤ (1073741824 : Int)) : MQ h1 h2 4 [aPm p] [] (Plain (eB true)) := by
 refine av ?_ Z
 refine jB 96 h1 h2 Tryz.func4 Z Z Z fun O hF => ?_
 subst hm0
 have hbig : L ≤ 9223372036854775807 := Nat.le_trans h2 (by decide)
 refine ag (jx O Z Z Z Z Z Z Z Z (au ?_))
 refine js O Z (aR (js O Z (aR (j2 O Z Z (ae O Z Z Z Z (c8 (p := p) (left := 1048576) h1 hbig (by decide) (by decide)) (ab Z) Z Z Z Z Z (B0 := 17000) Z (js O Z (jf [3,2,1,0] Z (jn (AWP.seq (ag (j2 O Z Z (jn (AWP.cond O Z Z (fun hc18 => ?_) (fun hc18 => ?_))))))))))))))
 exact absurd (of_decide_eq_true hc18) (by omega)
 refine AWP.skip (ag (js O Z (jf [20,17,3,2,1,0] Z (ao O Z Z Z Z (eg (p := p) h1 h2) (ab Z) Z Z Z Z (B0 := 22000) Z Z (jf [21,17,3,2,1,0] Z (ao O Z Z Z Z (cs) (ab Z) Z Z Z Z (B0 := 23000) Z Z (j4 O Z Z Z Z (js O Z (jf [5,4,17,3,2,1,0] Z (aR (js O Z (aW O (B0 := 27000) Z Z Z Z (rG (p := p) h1 h2) (ab Z) Z Z Z Z Z Z (au ?_)))))))))))))
 refine jf [26,5,4,17,3,2,1,0] Z (jl O Z Z Z Z Z Z (au ?_))
 refine jo O Z Z Z Z Z Z Z Z Z Z Z Z (au ?_)
 refine aR (js O Z (aW O (B0 := 30000) Z Z Z Z (ci) (.cons (.agg (.cons (.whole Z (List.length_map _).symm) (.cons (.whole Z (List.length_map _).symm) (.cons (.whole Z (List.length_map _).symm) .nil)))) .nil) Z Z Z Z Z Z (au ?_)))
 refine j4 O Z Z Z Z (js O Z (jf [8,7,6,26,5,4,17,3,2,1,0] Z (jn (AWP.seq (ag (j2 O Z Z (ae O Z Z Z Z ((f6 (xs := r) (ys := r) h1 h2).plain (u := eB true) (by simp)) (.cons (.c (.whole Z (List.length_map _).symm)) (.cons (.c .d) .nil)) Z Z Z Z Z (B0 := 35000) Z (j2 O Z Z (jf [36,8,7,6,26,5,4,17,3,2,1,0] Z (ah Z Z Z Z Z (js O Z (ah Z Z Z Z Z (js O Z ?_)))))))))))))
 refine ah Z Z Z Z Z (js O Z (aa (aZ O Z Z Z Z Z) Z Z Z (jf [40,8,7,6,26,5,4,17,3,2,1,0] Z (jn (AWP.cond O Z Z (fun hc40 => ?_) (fun hc40 => ?_))))))
 exact absurd (show false = true from hc40) (by decide)
 refine AWP.skip (AWP.seq (AWP.seq (jw [8,7,6,26,5,4,17,3,2,1,0] Z (f7 O [_,_,_,_,_] [pn [] 0 1, pn [] 0 0, pe [1] 0, pe [0,1,2] 1, pn [0,1,2,3] 2 2] [2,3] [_,_,_] (ai (kc O Z (V O Z)) (kc O Z (ai (bl O (B0 := 44000) Z Z Z Z (eg (p := p) h1 h2) (ab Z) Z Z Z Z Z) (ai (cd O (B0 := 45000) Z Z Z Z ((si (s := p) (t := p) h1 h2).plain (u := eB true) (by simp)) (.cons (.agg (.cons (.whole Z (List.length_map _).symm) (.cons (.whole Z (List.length_map _).symm) (.cons (.whole Z (List.length_map _).symm) .nil)))) (.cons (.agg (aw Z)) .nil)) Z Z Z Z Z) (kc O Z trivial))))) ?_))))
 refine jw [45,8,7,6,26,5,4,17,3,2,1,0] Z (ce ?_)
 refine AWP.cond O Z Z (fun hc45 => ?_) (fun hc45 => ?_)
 exact absurd (show false = true from hc45) (by decide)
 refine AWP.skip (ag (js O Z (aR (j2 O Z Z (jf [47,46,9,8,7,6,26,5,4,17,3,2,1,0] Z (ap O [27000,27001,27002] (bin := [dg p.pre, fm p.body, dg p.post]) Z Z Z Z (sg (p := p) (k := 1) h1 h2 (by decide) (by omega)) Z Z Z Z Z Z (B0 := 49000) Z Z (au ?_)))))))
 refine js O Z (jf [9,8,7,6,26,5,4,17,3,2,1,0] Z (jn (AWP.seq (ag (j2 O Z Z ?_)))))
 rw [decide_eq_false (show ¬ (1 + bh nT p.pre + bh nS p.body + bh nT p.post : Int) < 0 by omega)]
 refine js O Z (jf [51,9,8,7,6,26,5,4,17,3,2,1,0] Z (ah Z Z Z Z Z (js O Z (ah Z Z Z Z Z (js O Z (ah Z Z Z Z Z (ae O Z Z Z Z ((f6 (xs := r) (ys := r) h1 h2).plain (u := eB true) (by simp)) (.cons (.c (.whole Z (List.length_map _).symm)) (.cons (.c .d) .nil)) Z Z Z Z Z (B0 := 55000) Z (jf [54,51,9,8,7,6,26,5,4,17,3,2,1,0] Z (ah Z Z Z Z Z (js O Z (aa (aZ O Z Z Z Z Z) Z Z Z (js O Z (jf [57,9,8,7,6,26,5,4,17,3,2,1,0] Z ?_)))))))))))))
 refine ah Z Z Z Z Z (js O Z (ah Z Z Z Z Z (js O Z (ah Z Z Z Z Z (js O Z (aa (aZ O Z Z Z Z Z) Z Z Z (jf [61,9,8,7,6,26,5,4,17,3,2,1,0] Z (jn (AWP.cond O Z Z (fun hc61 => ?_) (fun hc61 => ?_))))))))))
 exact absurd (show false = true from hc61) (by decide)
 refine AWP.skip (ag (js O Z (aR (j2 O Z Z (jf [63,62,10,9,8,7,6,26,5,4,17,3,2,1,0] Z (ap O [30000] (bin := [ax r]) Z Z Z Z (sM (ts := r) (k := 1) h1 h2 (by decide) (by omega)) Z Z Z Z Z Z (B0 := 65000) Z Z (au ?_)))))))
 refine js O Z (jf [10,9,8,7,6,26,5,4,17,3,2,1,0] Z (aR (js O Z (aR (j2 O Z Z (ae O Z Z Z Z (jM (ts := r) (k := 1) h1 h2 (by decide) (by omega)) (.cons (.c (.whole Z (by rw [List.length_map, aM]))) (.cons (.c .d) .nil)) Z Z Z Z Z (B0 := 68000) Z (js O Z (jf [11,10,9,8,7,6,26,5,4,17,3,2,1,0] Z (jn (AWP.seq (ag (j2 O Z Z (jn ?_)))))))))))))
 refine AWP.cond O Z Z (fun hc69 => ?_) (fun hc69 => ?_)
 exact absurd (of_decide_eq_true hc69) (by omega)
 refine AWP.skip (AWP.seq (ag (j3 O Z Z Z (jf [72,68,11,10,9,8,7,6,26,5,4,17,3,2,1,0] Z (jn (AWP.cond O Z Z (fun hc72 => ?_) (fun hc72 => ?_)))))))
 exact absurd hc72 (by simp)
 refine AWP.skip (ag (js O Z (jf [74,68,11,10,9,8,7,6,26,5,4,17,3,2,1,0] Z (ao O Z Z Z Z (eg (p := p) h1 h2) (ab Z) Z Z Z Z (B0 := 76000) Z Z (jf [75,68,11,10,9,8,7,6,26,5,4,17,3,2,1,0] Z (aW O (B0 := 77000) Z Z Z Z (ci) (ab Z) Z Z Z Z Z Z (au ?_)))))))
 refine j4 O Z Z Z Z (js O Z (jf [13,12,68,11,10,9,8,7,6,26,5,4,17,3,2,1,0] Z (jn (AWP.seq (ag (j2 O Z Z (jf [80,79,13,68,11,10,9,8,7,6,26,5,4,17,3,2,1,0] Z (ae O Z Z Z Z ((f6 (xs := r) (ys := r) h1 h2).plain (u := eB true) (by simp)) (.cons (.c (.whole Z (List.length_map _).symm)) (.cons (.c .d) .nil)) Z Z Z Z Z (B0 := 82000) Z (j2 O Z Z (jf [83,13,68,11,10,9,8,7,6,26,5,4,17,3,2,1,0] Z (ah Z Z Z Z Z (js O Z (jf [84,83,68,11,10,9,8,7,6,26,5,4,17,3,2,1,0] Z ?_)))))))))))))
 refine ah Z Z Z Z Z (js O Z (ah Z Z Z Z Z (js O Z (aa (aZ O Z Z Z Z Z) Z Z Z (jf [87,68,11,10,9,8,7,6,26,5,4,17,3,2,1,0] Z (jn (AWP.cond O Z Z (fun hc87 => ?_) (fun hc87 => ?_))))))))
 exact absurd (show false = true from hc87) (by decide)
 refine AWP.skip (ag (js O Z (aR (j2 O Z Z (jf [89,88,11,68,10,9,8,7,6,26,5,4,17,3,2,1,0] Z (ae O Z Z Z Z (jM (ts := r) (k := 1) h1 h2 (by decide) (by omega)) (.cons (.c (.whole Z (by rw [List.length_map, aM]))) (.cons (.c .d) .nil)) Z Z Z Z Z (B0 := 91000) Z (js O Z (jf [11,68,10,9,8,7,6,26,5,4,17,3,2,1,0] Z (jn (AWP.seq (ag (j2 O Z Z (jn ?_)))))))))))))
 refine AWP.cond O Z Z (fun hc92 => ?_) (fun hc92 => ?_)
 exact absurd (of_decide_eq_true hc92) (by omega)
 refine AWP.skip (AWP.seq (ag (j3 O Z Z Z (jf [95,91,11,68,10,9,8,7,6,26,5,4,17,3,2,1,0] Z (jn (AWP.cond O Z Z (fun hc95 => ?_) (fun hc95 => ?_)))))))
 exact absurd hc95 (by simp)
 refine AWP.skip (ag (js O Z (jn (AWP.ret ?_))))
 refine ⟨.inl Z, _, Ent.refl, _, Z, ?_⟩
 rfl
theorem qU {p : Pm} (cs : MQ h1 h2 16 [aPm p] [] (Plain (.tup [o0 ([] : List Pth), eB false]))) (ci : MQ h1 h2 17 [aPm p] [] (Rows (.tup [.c (.d .nils), eB false]) [])) (hz1 : 0 ≤ dF 1048576 (Al.szs Tm.size p.pre + Al.szs Sm.size p.body + Al.szs Tm.size p.post)) (hcp : 1 + bh nT p.pre + bh nS p.body + bh nT p.post ≤ (1073741824 : Int)) : MQ h1 h2 4 [aPm p] [] (Plain (eB true)) := by
 refine av ?_ Z
 refine jB 96 h1 h2 Tryz.func4 Z Z Z fun O hF => ?_
 have hbig : L ≤ 9223372036854775807 := Nat.le_trans h2 (by decide)
 refine ag (jx O Z Z Z Z Z Z Z Z (au ?_))
 refine js O Z (aR (js O Z (aR (j2 O Z Z (ae O Z Z Z Z (c8 (p := p) (left := 1048576) h1 hbig (by decide) (by decide)) (ab Z) Z Z Z Z Z (B0 := 17000) Z (js O Z (jf [3,2,1,0] Z (jn (AWP.seq (ag (j2 O Z Z (jn (AWP.cond O Z Z (fun hc18 => ?_) (fun hc18 => ?_))))))))))))))
 exact absurd (of_decide_eq_true hc18) (by omega)
 refine AWP.skip (ag (js O Z (jf [20,17,3,2,1,0] Z (ao O Z Z Z Z (eg (p := p) h1 h2) (ab Z) Z Z Z Z (B0 := 22000) Z Z (jf [21,17,3,2,1,0] Z (ao O Z Z Z Z (cs) (ab Z) Z Z Z Z (B0 := 23000) Z Z (j4 O Z Z Z Z (js O Z (jf [5,4,17,3,2,1,0] Z (aR (js O Z (aW O (B0 := 27000) Z Z Z Z (rG (p := p) h1 h2) (ab Z) Z Z Z Z Z Z (au ?_)))))))))))))
 refine jf [26,5,4,17,3,2,1,0] Z (jl O Z Z Z Z Z Z (au ?_))
 refine jo O Z Z Z Z Z Z Z Z Z Z Z Z (au ?_)
 refine aR (js O Z (aW O (B0 := 30000) Z Z Z Z (ci) (.cons (.agg (.cons (.whole Z (List.length_map _).symm) (.cons (.whole Z (List.length_map _).symm) (.cons (.whole Z (List.length_map _).symm) .nil)))) .nil) Z Z Z Z Z Z (au ?_)))
 refine j4 O Z Z Z Z (js O Z (jf [8,7,6,26,5,4,17,3,2,1,0] Z (jn (AWP.seq (ag (j2 O Z Z (ae O Z Z Z Z ((f6 (xs := ([] : List Pth)) (ys := ([] : List Pth)) h1 h2).plain (u := eB true) (by simp)) (.cons (.c .nils) (.cons (.c .d) .nil)) Z Z Z Z Z (B0 := 35000) Z (j2 O Z Z (jf [36,8,7,6,26,5,4,17,3,2,1,0] Z (ah Z Z Z Z Z (js O Z (ah Z Z Z Z Z (js O Z ?_)))))))))))))
 refine ah Z Z Z Z Z (js O Z (aa (aZ O Z Z Z Z Z) Z Z Z (jf [40,8,7,6,26,5,4,17,3,2,1,0] Z (jn (AWP.cond O Z Z (fun hc40 => ?_) (fun hc40 => ?_))))))
 exact absurd (show false = true from hc40) (by decide)
 refine AWP.skip (AWP.seq (AWP.seq (jw [8,7,6,26,5,4,17,3,2,1,0] Z (f7 O [_,_,_,_,_] [pn [] 0 1, pn [] 0 0, pe [1] 0, pe [0,1,2] 1, pn [0,1,2,3] 2 2] [2,3] [_,_,_] (ai (kc O Z (V O Z)) (kc O Z (ai (bl O (B0 := 44000) Z Z Z Z (eg (p := p) h1 h2) (ab Z) Z Z Z Z Z) (ai (cd O (B0 := 45000) Z Z Z Z ((si (s := p) (t := p) h1 h2).plain (u := eB true) (by simp)) (.cons (.agg (.cons (.whole Z (List.length_map _).symm) (.cons (.whole Z (List.length_map _).symm) (.cons (.whole Z (List.length_map _).symm) .nil)))) (.cons (.agg (aw Z)) .nil)) Z Z Z Z Z) (kc O Z trivial))))) ?_))))
 refine jw [45,8,7,6,26,5,4,17,3,2,1,0] Z (ce ?_)
 refine AWP.cond O Z Z (fun hc45 => ?_) (fun hc45 => ?_)
 exact absurd (show false = true from hc45) (by decide)
 refine AWP.skip (ag (js O Z (aR (j2 O Z Z (jf [47,46,9,8,7,6,26,5,4,17,3,2,1,0] Z (ap O [27000,27001,27002] (bin := [dg p.pre, fm p.body, dg p.post]) Z Z Z Z (sg (p := p) (k := 1) h1 h2 (by decide) (by omega)) Z Z Z Z Z Z (B0 := 49000) Z Z (au ?_)))))))
 refine js O Z (jf [9,8,7,6,26,5,4,17,3,2,1,0] Z (jn (AWP.seq (ag (j2 O Z Z ?_)))))
 rw [decide_eq_false (show ¬ (1 + bh nT p.pre + bh nS p.body + bh nT p.post : Int) < 0 by omega)]
 refine js O Z (jf [51,9,8,7,6,26,5,4,17,3,2,1,0] Z (ah Z Z Z Z Z (js O Z (ah Z Z Z Z Z (js O Z (ah Z Z Z Z Z (ae O Z Z Z Z ((f6 (xs := ([] : List Pth)) (ys := ([] : List Pth)) h1 h2).plain (u := eB true) (by simp)) (.cons (.c .nils) (.cons (.c .d) .nil)) Z Z Z Z Z (B0 := 55000) Z (jf [54,51,9,8,7,6,26,5,4,17,3,2,1,0] Z (ah Z Z Z Z Z (js O Z (aa (aZ O Z Z Z Z Z) Z Z Z (js O Z (jf [57,9,8,7,6,26,5,4,17,3,2,1,0] Z ?_)))))))))))))
 refine ah Z Z Z Z Z (js O Z (ah Z Z Z Z Z (js O Z (ah Z Z Z Z Z (js O Z (aa (aZ O Z Z Z Z Z) Z Z Z (jf [61,9,8,7,6,26,5,4,17,3,2,1,0] Z (jn (AWP.cond O Z Z (fun hc61 => ?_) (fun hc61 => ?_))))))))))
 exact absurd (show false = true from hc61) (by decide)
 refine AWP.skip (ag (js O Z (aR (j2 O Z Z (jf [63,62,10,9,8,7,6,26,5,4,17,3,2,1,0] Z (ae O Z Z Z Z (qT (k := 1) h1 h2) (.cons (.c .nils) (.cons (.c .d) .nil)) Z Z Z Z Z (B0 := 65000) Z (js O Z (jf [10,9,8,7,6,26,5,4,17,3,2,1,0] Z (aR (js O Z (aR (j2 O Z Z (ae O Z Z Z Z ((jM (ts := ([] : List Pth)) (k := 1) h1 h2 (by decide) (by decide)).plain (u := eI 1) Z) (.cons (.c .nils) (.cons (.c .d) .nil)) Z Z Z Z Z (B0 := 68000) Z ?_)))))))))))))
 refine js O Z (jf [11,10,9,8,7,6,26,5,4,17,3,2,1,0] Z (jn (AWP.seq (ag (j2 O Z Z (jn (AWP.cond O Z Z (fun hc69 => ?_) (fun hc69 => ?_))))))))
 exact absurd (of_decide_eq_true hc69) (by decide)
 refine AWP.skip (AWP.seq (ag (j3 O Z Z Z (jf [72,68,11,10,9,8,7,6,26,5,4,17,3,2,1,0] Z (jn (AWP.cond O Z Z (fun hc72 => ?_) (fun hc72 => ?_)))))))
 exact absurd hc72 (by simp)
 refine AWP.skip (ag (js O Z (jf [74,68,11,10,9,8,7,6,26,5,4,17,3,2,1,0] Z (ao O Z Z Z Z (eg (p := p) h1 h2) (ab Z) Z Z Z Z (B0 := 76000) Z Z (jf [75,68,11,10,9,8,7,6,26,5,4,17,3,2,1,0] Z (aW O (B0 := 77000) Z Z Z Z (ci) (ab Z) Z Z Z Z Z Z (au ?_)))))))
 refine j4 O Z Z Z Z (js O Z (jf [13,12,68,11,10,9,8,7,6,26,5,4,17,3,2,1,0] Z (jn (AWP.seq (ag (j2 O Z Z (jf [80,79,13,68,11,10,9,8,7,6,26,5,4,17,3,2,1,0] Z (ae O Z Z Z Z ((f6 (xs := ([] : List Pth)) (ys := ([] : List Pth)) h1 h2).plain (u := eB true) (by simp)) (.cons (.c .nils) (.cons (.c .d) .nil)) Z Z Z Z Z (B0 := 82000) Z (j2 O Z Z (jf [83,13,68,11,10,9,8,7,6,26,5,4,17,3,2,1,0] Z (ah Z Z Z Z Z (js O Z (jf [84,83,68,11,10,9,8,7,6,26,5,4,17,3,2,1,0] Z ?_)))))))))))))
 refine ah Z Z Z Z Z (js O Z (ah Z Z Z Z Z (js O Z (aa (aZ O Z Z Z Z Z) Z Z Z (jf [87,68,11,10,9,8,7,6,26,5,4,17,3,2,1,0] Z (jn (AWP.cond O Z Z (fun hc87 => ?_) (fun hc87 => ?_))))))))
 exact absurd (show false = true from hc87) (by decide)
 refine AWP.skip (ag (js O Z (aR (j2 O Z Z (jf [89,88,11,68,10,9,8,7,6,26,5,4,17,3,2,1,0] Z (ae O Z Z Z Z ((jM (ts := ([] : List Pth)) (k := 1) h1 h2 (by decide) (by decide)).plain (u := eI 1) Z) (.cons (.c .nils) (.cons (.c .d) .nil)) Z Z Z Z Z (B0 := 91000) Z (js O Z (jf [11,68,10,9,8,7,6,26,5,4,17,3,2,1,0] Z (jn (AWP.seq (ag (j2 O Z Z (jn ?_)))))))))))))
 refine AWP.cond O Z Z (fun hc92 => ?_) (fun hc92 => ?_)
 exact absurd (of_decide_eq_true hc92) (by decide)
 refine AWP.skip (AWP.seq (ag (j3 O Z Z Z (jf [95,91,11,68,10,9,8,7,6,26,5,4,17,3,2,1,0] Z (jn (AWP.cond O Z Z (fun hc95 => ?_) (fun hc95 => ?_)))))))
 exact absurd hc95 (by simp)
 refine AWP.skip (ag (js O Z (jn (AWP.ret ?_))))
 refine ⟨.inl Z, _, Ent.refl, _, Z, ?_⟩
 rfl
theorem t9 {L : Nat} (h1 : 4096 ≤ L) (h2 : L ≤ 9223372036854775807) {p : Pm} (hz : dF 1048576 (Al.szs Tm.size p.pre + Al.szs Sm.size p.body + Al.szs Tm.size p.post) < 0) : MC Tryz.prog L 4 [aPm p] [] (Plain (eB true)) := by
 refine av ?_ Z
 have O := j8 (nt := 96) h1 h2
 refine MC.body O Tryz.func4 (by kernel_rfl) Z Z (Nat.le_of_ble_eq_true Z) (fun hF => ?_)
 refine ag (jx O Z Z Z Z Z Z Z Z (au ?_))
 refine js O Z (aR (js O Z (aR (j2 O Z Z (ae O Z Z Z Z (c8 (p := p) (left := 1048576) h1 h2 (by decide) (by decide)) (ab Z) Z Z Z Z Z (B0 := 17000) Z (js O Z (jf [3,2,1,0] Z (jn (AWP.seq (ag (j2 O Z Z (jn (AWP.cond O Z Z (fun hc18 => ?_) (fun hc18 => ?_))))))))))))))
 refine ag (js O Z (jn (AWP.ret ?_)))
 refine ⟨.inl Z, _, Ent.refl, _, Z, ?_⟩
 rfl
 exact absurd (of_decide_eq_false hc18) (fun h => h hz)
theorem t6 {p : Pm} {n : Int} {r : List Sq} {m0 : Nat} (hm0 : m0 = r.length) (hcc : 1 + bh nQ r ≤ (1073741824 : Int)) (cs : MQ h1 h2 18 [aPm p, eI n] [] (Plain (.tup [oZ r, eB true]))) (ci : MQ h1 h2 19 [aPm p, eI n] [] (Rows (.tup [.c (.rs 0 0 m0), eB true]) [ay r])) (hz1 : 0 ≤ dF 1048576 (Al.szs Tm.size p.pre + Al.szs Sm.size p.body + Al.szs Tm.size p.post)) (hcp : 1 + bh nT p.pre + bh nS p.body + bh nT p.post ≤ (1073741824 : Int)) : MQ h1 h2 5 [aPm p, eI n] [] (Plain (eB true)) := by
 refine av ?_ Z
 refine jB 101 h1 h2 Tryz.func5 Z Z Z fun O hF => ?_
 subst hm0
 have hbig : L ≤ 9223372036854775807 := Nat.le_trans h2 (by decide)
 refine ag (jx O Z Z Z Z Z Z Z Z (au ?_))
 refine js O Z (aR (js O Z (aR (j2 O Z Z (ae O Z Z Z Z (c8 (p := p) (left := 1048576) h1 hbig (by decide) (by decide)) (ab Z) Z Z Z Z Z (B0 := 19000) Z (js O Z (jf [5,4,2,0,1] Z (jn (AWP.seq (ag (j2 O Z Z (jn (AWP.cond O Z Z (fun hc20 => ?_) (fun hc20 => ?_))))))))))))))
 exact absurd (of_decide_eq_true hc20) (by omega)
 refine AWP.skip (ag (js O Z (jf [22,19,5,4,2,0,1] Z (ao O Z Z Z Z (eg (p := p) h1 h2) (ab Z) Z Z Z Z (B0 := 24000) Z Z (js O Z (jf [24,23,19,5,4,2,0,1] Z (ao O Z Z Z Z (cs) (ab Z) Z Z Z Z (B0 := 26000) Z Z (j4 O Z Z Z Z (js O Z (jf [7,6,19,5,4,2,0,1] Z (aR (js O Z (aW O (B0 := 30000) Z Z Z Z (rG (p := p) h1 h2) (ab Z) Z Z Z Z Z Z ?_)))))))))))))
 refine au ?_
 refine jf [29,7,6,19,5,4,2,0,1] Z (jl O Z Z Z Z Z Z (au ?_))
 refine jo O Z Z Z Z Z Z Z Z Z Z Z Z (au ?_)
 refine aR (j2 O Z Z (aW O (B0 := 34000) Z Z Z Z (ci) (.cons (.agg (.cons (.whole Z (List.length_map _).symm) (.cons (.whole Z (List.length_map _).symm) (.cons (.whole Z (List.length_map _).symm) .nil)))) (.cons (.c .d) .nil)) Z Z Z Z Z Z (au ?_)))
 refine j4 O Z Z Z Z (js O Z (jf [10,9,8,29,7,6,19,5,4,2,0,1] Z (jn (AWP.seq (ag (j2 O Z Z (ae O Z Z Z Z ((qf (xs := r) (ys := r) h1 h2).plain (u := eB true) (by simp)) (.cons (.c (.whole Z (List.length_map _).symm)) (.cons (.c .d) .nil)) Z Z Z Z Z (B0 := 39000) Z (j2 O Z Z (jf [40,10,9,8,29,7,6,19,5,4,2,0,1] Z (ah Z Z Z Z Z (js O Z (ah Z Z Z Z Z (js O Z ?_)))))))))))))
 refine ah Z Z Z Z Z (js O Z (aa (aZ O Z Z Z Z Z) Z Z Z (jf [44,10,9,8,29,7,6,19,5,4,2,0,1] Z (jn (AWP.cond O Z Z (fun hc44 => ?_) (fun hc44 => ?_))))))
 exact absurd (show false = true from hc44) (by decide)
 refine AWP.skip (AWP.seq (AWP.seq (jw [10,9,8,29,7,6,19,5,4,2,0,1] Z (f7 O [_,_,_,_,_] [pn [] 0 1, pn [] 0 0, pe [1] 0, pe [0,1,2] 1, pn [0,1,2,3] 2 2] [2,3] [_,_,_] (ai (kc O Z (V O Z)) (kc O Z (ai (bl O (B0 := 48000) Z Z Z Z (eg (p := p) h1 h2) (ab Z) Z Z Z Z Z) (ai (cd O (B0 := 49000) Z Z Z Z ((si (s := p) (t := p) h1 h2).plain (u := eB true) (by simp)) (.cons (.agg (.cons (.whole Z (List.length_map _).symm) (.cons (.whole Z (List.length_map _).symm) (.cons (.whole Z (List.length_map _).symm) .nil)))) (.cons (.agg (aw Z)) .nil)) Z Z Z Z Z) (kc O Z trivial))))) ?_))))
 refine jw [49,10,9,8,29,7,6,19,5,4,2,0,1] Z (ce ?_)
 refine AWP.cond O Z Z (fun hc49 => ?_) (fun hc49 => ?_)
 exact absurd (show false = true from hc49) (by decide)
 refine AWP.skip (ag (js O Z (aR (j2 O Z Z (jf [51,50,11,10,9,8,29,7,6,19,5,4,2,0,1] Z (ap O [30000,30001,30002] (bin := [dg p.pre, fm p.body, dg p.post]) Z Z Z Z (sg (p := p) (k := 1) h1 h2 (by decide) (by omega)) Z Z Z Z Z Z (B0 := 53000) Z Z (au ?_)))))))
 refine js O Z (jf [11,10,9,8,29,7,6,19,5,4,2,0,1] Z (jn (AWP.seq (ag (j2 O Z Z ?_)))))
 rw [decide_eq_false (show ¬ (1 + bh nT p.pre + bh nS p.body + bh nT p.post : Int) < 0 by omega)]
 refine js O Z (jf [55,11,10,9,8,29,7,6,19,5,4,2,0,1] Z (ah Z Z Z Z Z (js O Z (ah Z Z Z Z Z (js O Z (ah Z Z Z Z Z (ae O Z Z Z Z ((qf (xs := r) (ys := r) h1 h2).plain (u := eB true) (by simp)) (.cons (.c (.whole Z (List.length_map _).symm)) (.cons (.c .d) .nil)) Z Z Z Z Z (B0 := 59000) Z (jf [58,55,11,10,9,8,29,7,6,19,5,4,2,0,1] Z (ah Z Z Z Z Z (js O Z (aa (aZ O Z Z Z Z Z) Z Z Z (js O Z (jf [61,11,10,9,8,29,7,6,19,5,4,2,0,1] Z ?_)))))))))))))
 refine ah Z Z Z Z Z (js O Z (ah Z Z Z Z Z (js O Z (ah Z Z Z Z Z (js O Z (aa (aZ O Z Z Z Z Z) Z Z Z (jf [65,11,10,9,8,29,7,6,19,5,4,2,0,1] Z (jn (AWP.cond O Z Z (fun hc65 => ?_) (fun hc65 => ?_))))))))))
 exact absurd (show false = true from hc65) (by decide)
 refine AWP.skip (ag (js O Z (aR (j2 O Z Z (jf [67,66,12,11,10,9,8,29,7,6,19,5,4,2,0,1] Z (ap O [34000] (bin := [ay r]) Z Z Z Z (sN (ts := r) (k := 1) h1 h2 (by decide) (by omega)) Z Z Z Z Z Z (B0 := 69000) Z Z (au ?_)))))))
 refine js O Z (jf [12,11,10,9,8,29,7,6,19,5,4,2,0,1] Z (aR (js O Z (aR (j2 O Z Z (ae O Z Z Z Z (jL (ts := r) (k := 1) h1 h2 (by decide) (by omega)) (.cons (.c (.whole Z (by rw [List.length_map, aM]))) (.cons (.c .d) .nil)) Z Z Z Z Z (B0 := 72000) Z (js O Z (jf [13,12,11,10,9,8,29,7,6,19,5,4,2,0,1] Z (jn (AWP.seq (ag (j2 O Z Z (jn ?_)))))))))))))
 refine AWP.cond O Z Z (fun hc73 => ?_) (fun hc73 => ?_)
 exact absurd (of_decide_eq_true hc73) (by omega)
 refine AWP.skip (AWP.seq (ag (j3 O Z Z Z (jf [76,72,13,12,11,10,9,8,29,7,6,19,5,4,2,0,1] Z (jn (AWP.cond O Z Z (fun hc76 => ?_) (fun hc76 => ?_)))))))
 exact absurd hc76 (by simp)
 refine AWP.skip (ag (js O Z (jf [78,72,13,12,11,10,9,8,29,7,6,19,5,4,2,0,1] Z (ao O Z Z Z Z (eg (p := p) h1 h2) (ab Z) Z Z Z Z (B0 := 80000) Z Z (js O Z (jf [80,79,72,13,12,11,10,9,8,29,7,6,19,5,4,2,0,1] Z (aW O (B0 := 82000) Z Z Z Z (ci) (ab Z) Z Z Z Z Z Z (au ?_))))))))
 refine j4 O Z Z Z Z (js O Z (jf [15,14,72,13,12,11,10,9,8,29,7,6,19,5,4,2,0,1] Z (jn (AWP.seq (ag (j2 O Z Z (jf [85,84,15,72,13,12,11,10,9,8,29,7,6,19,5,4,2,0,1] Z (ae O Z Z Z Z ((qf (xs := r) (ys := r) h1 h2).plain (u := eB true) (by simp)) (.cons (.c (.whole Z (List.length_map _).symm)) (.cons (.c .d) .nil)) Z Z Z Z Z (B0 := 87000) Z (j2 O Z Z (jf [88,15,72,13,12,11,10,9,8,29,7,6,19,5,4,2,0,1] Z (ah Z Z Z Z Z (js O Z (jf [89,88,72,13,12,11,10,9,8,29,7,6,19,5,4,2,0,1] Z ?_)))))))))))))
 refine ah Z Z Z Z Z (js O Z (ah Z Z Z Z Z (js O Z (aa (aZ O Z Z Z Z Z) Z Z Z (jf [92,72,13,12,11,10,9,8,29,7,6,19,5,4,2,0,1] Z (jn (AWP.cond O Z Z (fun hc92 => ?_) (fun hc92 => ?_))))))))
 exact absurd (show false = true from hc92) (by decide)
 refine AWP.skip (ag (js O Z (aR (j2 O Z Z (jf [94,93,13,72,12,11,10,9,8,29,7,6,19,5,4,2,0,1] Z (ae O Z Z Z Z (jL (ts := r) (k := 1) h1 h2 (by decide) (by omega)) (.cons (.c (.whole Z (by rw [List.length_map, aM]))) (.cons (.c .d) .nil)) Z Z Z Z Z (B0 := 96000) Z (js O Z (jf [13,72,12,11,10,9,8,29,7,6,19,5,4,2,0,1] Z (jn (AWP.seq (ag (j2 O Z Z (jn ?_)))))))))))))
 refine AWP.cond O Z Z (fun hc97 => ?_) (fun hc97 => ?_)
 exact absurd (of_decide_eq_true hc97) (by omega)
 refine AWP.skip (AWP.seq (ag (j3 O Z Z Z (jf [100,96,13,72,12,11,10,9,8,29,7,6,19,5,4,2,0,1] Z (jn (AWP.cond O Z Z (fun hc100 => ?_) (fun hc100 => ?_)))))))
 exact absurd hc100 (by simp)
 refine AWP.skip (ag (js O Z (jn (AWP.ret ?_))))
 refine ⟨.inl Z, _, Ent.refl, _, Z, ?_⟩
 rfl
theorem l9 {p : Pm} {n : Int} (cs : MQ h1 h2 18 [aPm p, eI n] [] (Plain (.tup [oZ ([] : List Sq), eB false]))) (ci : MQ h1 h2 19 [aPm p, eI n] [] (Rows (.tup [.c (.d .nils), eB false]) [])) (hz1 : 0 ≤ dF 1048576 (Al.szs Tm.size p.pre + Al.szs Sm.size p.body + Al.szs Tm.size p.post)) (hcp : 1 + bh nT p.pre + bh nS p.body + bh nT p.post ≤ (1073741824 : Int)) : MQ h1 h2 5 [aPm p, eI n] [] (Plain (eB true)) := by
 refine av ?_ Z
 refine jB 101 h1 h2 Tryz.func5 Z Z Z fun O hF => ?_
 have hbig : L ≤ 9223372036854775807 := Nat.le_trans h2 (by decide)
 refine ag (jx O Z Z Z Z Z Z Z Z (au ?_))
 refine js O Z (aR (js O Z (aR (j2 O Z Z (ae O Z Z Z Z (c8 (p := p) (left := 1048576) h1 hbig (by decide) (by decide)) (ab Z) Z Z Z Z Z (B0 := 19000) Z (js O Z (jf [5,4,2,0,1] Z (jn (AWP.seq (ag (j2 O Z Z (jn (AWP.cond O Z Z (fun hc20 => ?_) (fun hc20 => ?_))))))))))))))
 exact absurd (of_decide_eq_true hc20) (by omega)
 refine AWP.skip (ag (js O Z (jf [22,19,5,4,2,0,1] Z (ao O Z Z Z Z (eg (p := p) h1 h2) (ab Z) Z Z Z Z (B0 := 24000) Z Z (js O Z (jf [24,23,19,5,4,2,0,1] Z (ao O Z Z Z Z (cs) (ab Z) Z Z Z Z (B0 := 26000) Z Z (j4 O Z Z Z Z (js O Z (jf [7,6,19,5,4,2,0,1] Z (aR (js O Z (aW O (B0 := 30000) Z Z Z Z (rG (p := p) h1 h2) (ab Z) Z Z Z Z Z Z ?_)))))))))))))
 refine au ?_
 refine jf [29,7,6,19,5,4,2,0,1] Z (jl O Z Z Z Z Z Z (au ?_))
 refine jo O Z Z Z Z Z Z Z Z Z Z Z Z (au ?_)
 refine aR (j2 O Z Z (aW O (B0 := 34000) Z Z Z Z (ci) (.cons (.agg (.cons (.whole Z (List.length_map _).symm) (.cons (.whole Z (List.length_map _).symm) (.cons (.whole Z (List.length_map _).symm) .nil)))) (.cons (.c .d) .nil)) Z Z Z Z Z Z (au ?_)))
 refine j4 O Z Z Z Z (js O Z (jf [10,9,8,29,7,6,19,5,4,2,0,1] Z (jn (AWP.seq (ag (j2 O Z Z (ae O Z Z Z Z ((qf (xs := ([] : List Sq)) (ys := ([] : List Sq)) h1 h2).plain (u := eB true) (by simp)) (.cons (.c .nils) (.cons (.c .d) .nil)) Z Z Z Z Z (B0 := 39000) Z (j2 O Z Z (jf [40,10,9,8,29,7,6,19,5,4,2,0,1] Z (ah Z Z Z Z Z (js O Z (ah Z Z Z Z Z (js O Z ?_)))))))))))))
 refine ah Z Z Z Z Z (js O Z (aa (aZ O Z Z Z Z Z) Z Z Z (jf [44,10,9,8,29,7,6,19,5,4,2,0,1] Z (jn (AWP.cond O Z Z (fun hc44 => ?_) (fun hc44 => ?_))))))
 exact absurd (show false = true from hc44) (by decide)
 refine AWP.skip (AWP.seq (AWP.seq (jw [10,9,8,29,7,6,19,5,4,2,0,1] Z (f7 O [_,_,_,_,_] [pn [] 0 1, pn [] 0 0, pe [1] 0, pe [0,1,2] 1, pn [0,1,2,3] 2 2] [2,3] [_,_,_] (ai (kc O Z (V O Z)) (kc O Z (ai (bl O (B0 := 48000) Z Z Z Z (eg (p := p) h1 h2) (ab Z) Z Z Z Z Z) (ai (cd O (B0 := 49000) Z Z Z Z ((si (s := p) (t := p) h1 h2).plain (u := eB true) (by simp)) (.cons (.agg (.cons (.whole Z (List.length_map _).symm) (.cons (.whole Z (List.length_map _).symm) (.cons (.whole Z (List.length_map _).symm) .nil)))) (.cons (.agg (aw Z)) .nil)) Z Z Z Z Z) (kc O Z trivial))))) ?_))))
 refine jw [49,10,9,8,29,7,6,19,5,4,2,0,1] Z (ce ?_)
 refine AWP.cond O Z Z (fun hc49 => ?_) (fun hc49 => ?_)
 exact absurd (show false = true from hc49) (by decide)
 refine AWP.skip (ag (js O Z (aR (j2 O Z Z (jf [51,50,11,10,9,8,29,7,6,19,5,4,2,0,1] Z (ap O [30000,30001,30002] (bin := [dg p.pre, fm p.body, dg p.post]) Z Z Z Z (sg (p := p) (k := 1) h1 h2 (by decide) (by omega)) Z Z Z Z Z Z (B0 := 53000) Z Z (au ?_)))))))
 refine js O Z (jf [11,10,9,8,29,7,6,19,5,4,2,0,1] Z (jn (AWP.seq (ag (j2 O Z Z ?_)))))
 rw [decide_eq_false (show ¬ (1 + bh nT p.pre + bh nS p.body + bh nT p.post : Int) < 0 by omega)]
 refine js O Z (jf [55,11,10,9,8,29,7,6,19,5,4,2,0,1] Z (ah Z Z Z Z Z (js O Z (ah Z Z Z Z Z (js O Z (ah Z Z Z Z Z (ae O Z Z Z Z ((qf (xs := ([] : List Sq)) (ys := ([] : List Sq)) h1 h2).plain (u := eB true) (by simp)) (.cons (.c .nils) (.cons (.c .d) .nil)) Z Z Z Z Z (B0 := 59000) Z (jf [58,55,11,10,9,8,29,7,6,19,5,4,2,0,1] Z (ah Z Z Z Z Z (js O Z (aa (aZ O Z Z Z Z Z) Z Z Z (js O Z (jf [61,11,10,9,8,29,7,6,19,5,4,2,0,1] Z ?_)))))))))))))
 refine ah Z Z Z Z Z (js O Z (ah Z Z Z Z Z (js O Z (ah Z Z Z Z Z (js O Z (aa (aZ O Z Z Z Z Z) Z Z Z (jf [65,11,10,9,8,29,7,6,19,5,4,2,0,1] Z (jn (AWP.cond O Z Z (fun hc65 => ?_) (fun hc65 => ?_))))))))))
 exact absurd (show false = true from hc65) (by decide)
 refine AWP.skip (ag (js O Z (aR (j2 O Z Z (jf [67,66,12,11,10,9,8,29,7,6,19,5,4,2,0,1] Z (ae O Z Z Z Z (qV (k := 1) h1 h2) (.cons (.c .nils) (.cons (.c .d) .nil)) Z Z Z Z Z (B0 := 69000) Z (js O Z (jf [12,11,10,9,8,29,7,6,19,5,4,2,0,1] Z (aR (js O Z (aR (j2 O Z Z (ae O Z Z Z Z ((jL (ts := ([] : List Sq)) (k := 1) h1 h2 (by decide) (by decide)).plain (u := eI 1) Z) (.cons (.c .nils) (.cons (.c .d) .nil)) Z Z Z Z Z (B0 := 72000) Z ?_)))))))))))))
 refine js O Z (jf [13,12,11,10,9,8,29,7,6,19,5,4,2,0,1] Z (jn (AWP.seq (ag (j2 O Z Z (jn (AWP.cond O Z Z (fun hc73 => ?_) (fun hc73 => ?_))))))))
 exact absurd (of_decide_eq_true hc73) (by decide)
 refine AWP.skip (AWP.seq (ag (j3 O Z Z Z (jf [76,72,13,12,11,10,9,8,29,7,6,19,5,4,2,0,1] Z (jn (AWP.cond O Z Z (fun hc76 => ?_) (fun hc76 => ?_)))))))
 exact absurd hc76 (by simp)
 refine AWP.skip (ag (js O Z (jf [78,72,13,12,11,10,9,8,29,7,6,19,5,4,2,0,1] Z (ao O Z Z Z Z (eg (p := p) h1 h2) (ab Z) Z Z Z Z (B0 := 80000) Z Z (js O Z (jf [80,79,72,13,12,11,10,9,8,29,7,6,19,5,4,2,0,1] Z (aW O (B0 := 82000) Z Z Z Z (ci) (ab Z) Z Z Z Z Z Z (au ?_))))))))
 refine j4 O Z Z Z Z (js O Z (jf [15,14,72,13,12,11,10,9,8,29,7,6,19,5,4,2,0,1] Z (jn (AWP.seq (ag (j2 O Z Z (jf [85,84,15,72,13,12,11,10,9,8,29,7,6,19,5,4,2,0,1] Z (ae O Z Z Z Z ((qf (xs := ([] : List Sq)) (ys := ([] : List Sq)) h1 h2).plain (u := eB true) (by simp)) (.cons (.c .nils) (.cons (.c .d) .nil)) Z Z Z Z Z (B0 := 87000) Z (j2 O Z Z (jf [88,15,72,13,12,11,10,9,8,29,7,6,19,5,4,2,0,1] Z (ah Z Z Z Z Z (js O Z (jf [89,88,72,13,12,11,10,9,8,29,7,6,19,5,4,2,0,1] Z ?_)))))))))))))
 refine ah Z Z Z Z Z (js O Z (ah Z Z Z Z Z (js O Z (aa (aZ O Z Z Z Z Z) Z Z Z (jf [92,72,13,12,11,10,9,8,29,7,6,19,5,4,2,0,1] Z (jn (AWP.cond O Z Z (fun hc92 => ?_) (fun hc92 => ?_))))))))
 exact absurd (show false = true from hc92) (by decide)
 refine AWP.skip (ag (js O Z (aR (j2 O Z Z (jf [94,93,13,72,12,11,10,9,8,29,7,6,19,5,4,2,0,1] Z (ae O Z Z Z Z ((jL (ts := ([] : List Sq)) (k := 1) h1 h2 (by decide) (by decide)).plain (u := eI 1) Z) (.cons (.c .nils) (.cons (.c .d) .nil)) Z Z Z Z Z (B0 := 96000) Z (js O Z (jf [13,72,12,11,10,9,8,29,7,6,19,5,4,2,0,1] Z (jn (AWP.seq (ag (j2 O Z Z (jn ?_)))))))))))))
 refine AWP.cond O Z Z (fun hc97 => ?_) (fun hc97 => ?_)
 exact absurd (of_decide_eq_true hc97) (by decide)
 refine AWP.skip (AWP.seq (ag (j3 O Z Z Z (jf [100,96,13,72,12,11,10,9,8,29,7,6,19,5,4,2,0,1] Z (jn (AWP.cond O Z Z (fun hc100 => ?_) (fun hc100 => ?_)))))))
 exact absurd hc100 (by simp)
 refine AWP.skip (ag (js O Z (jn (AWP.ret ?_))))
 refine ⟨.inl Z, _, Ent.refl, _, Z, ?_⟩
 rfl
theorem t7 {L : Nat} (h1 : 4096 ≤ L) (h2 : L ≤ 9223372036854775807) {p : Pm} {n : Int} (hz : dF 1048576 (Al.szs Tm.size p.pre + Al.szs Sm.size p.body + Al.szs Tm.size p.post) < 0) : MC Tryz.prog L 5 [aPm p, eI n] [] (Plain (eB true)) := by
 refine av ?_ Z
 have O := j8 (nt := 101) h1 h2
 refine MC.body O Tryz.func5 (by kernel_rfl) Z Z (Nat.le_of_ble_eq_true Z) (fun hF => ?_)
 refine ag (jx O Z Z Z Z Z Z Z Z (au ?_))
 refine js O Z (aR (js O Z (aR (j2 O Z Z (ae O Z Z Z Z (c8 (p := p) (left := 1048576) h1 h2 (by decide) (by decide)) (ab Z) Z Z Z Z Z (B0 := 19000) Z (js O Z (jf [5,4,2,0,1] Z (jn (AWP.seq (ag (j2 O Z Z (jn (AWP.cond O Z Z (fun hc20 => ?_) (fun hc20 => ?_))))))))))))))
 refine ag (js O Z (jn (AWP.ret ?_)))
 refine ⟨.inl Z, _, Ent.refl, _, Z, ?_⟩
 rfl
 exact absurd (of_decide_eq_false hc20) (fun h => h hz)
theorem t4 {p : Pm} {r : List Sq} {m0 : Nat} (hm0 : m0 = r.length) (hcc : 1 + bh nQ r ≤ (1073741824 : Int)) (cs : MQ h1 h2 23 [aPm p] [] (Plain (.tup [oZ r, eB true]))) (ci : MQ h1 h2 24 [aPm p] [] (Rows (.tup [.c (.rs 0 0 m0), eB true]) [ay r])) (hz1 : 0 ≤ dF 1048576 (Al.szs Tm.size p.pre + Al.szs Sm.size p.body + Al.szs Tm.size p.post)) (hcp : 1 + bh nT p.pre + bh nS p.body + bh nT p.post ≤ (1073741824 : Int)) : MQ h1 h2 6 [aPm p] [] (Plain (eB true)) := by
 refine av ?_ Z
 refine jB 96 h1 h2 Tryz.func6 Z Z Z fun O hF => ?_
 subst hm0
 have hbig : L ≤ 9223372036854775807 := Nat.le_trans h2 (by decide)
 refine ag (jx O Z Z Z Z Z Z Z Z (au ?_))
 refine js O Z (aR (js O Z (aR (j2 O Z Z (ae O Z Z Z Z (c8 (p := p) (left := 1048576) h1 hbig (by decide) (by decide)) (ab Z) Z Z Z Z Z (B0 := 17000) Z (js O Z (jf [3,2,1,0] Z (jn (AWP.seq (ag (j2 O Z Z (jn (AWP.cond O Z Z (fun hc18 => ?_) (fun hc18 => ?_))))))))))))))
 exact absurd (of_decide_eq_true hc18) (by omega)
 refine AWP.skip (ag (js O Z (jf [20,17,3,2,1,0] Z (ao O Z Z Z Z (eg (p := p) h1 h2) (ab Z) Z Z Z Z (B0 := 22000) Z Z (jf [21,17,3,2,1,0] Z (ao O Z Z Z Z (cs) (ab Z) Z Z Z Z (B0 := 23000) Z Z (j4 O Z Z Z Z (js O Z (jf [5,4,17,3,2,1,0] Z (aR (js O Z (aW O (B0 := 27000) Z Z Z Z (rG (p := p) h1 h2) (ab Z) Z Z Z Z Z Z (au ?_)))))))))))))
 refine jf [26,5,4,17,3,2,1,0] Z (jl O Z Z Z Z Z Z (au ?_))
 refine jo O Z Z Z Z Z Z Z Z Z Z Z Z (au ?_)
 refine aR (js O Z (aW O (B0 := 30000) Z Z Z Z (ci) (.cons (.agg (.cons (.whole Z (List.length_map _).symm) (.cons (.whole Z (List.length_map _).symm) (.cons (.whole Z (List.length_map _).symm) .nil)))) .nil) Z Z Z Z Z Z (au ?_)))
 refine j4 O Z Z Z Z (js O Z (jf [8,7,6,26,5,4,17,3,2,1,0] Z (jn (AWP.seq (ag (j2 O Z Z (ae O Z Z Z Z ((qf (xs := r) (ys := r) h1 h2).plain (u := eB true) (by simp)) (.cons (.c (.whole Z (List.length_map _).symm)) (.cons (.c .d) .nil)) Z Z Z Z Z (B0 := 35000) Z (j2 O Z Z (jf [36,8,7,6,26,5,4,17,3,2,1,0] Z (ah Z Z Z Z Z (js O Z (ah Z Z Z Z Z (js O Z ?_)))))))))))))
 refine ah Z Z Z Z Z (js O Z (aa (aZ O Z Z Z Z Z) Z Z Z (jf [40,8,7,6,26,5,4,17,3,2,1,0] Z (jn (AWP.cond O Z Z (fun hc40 => ?_) (fun hc40 => ?_))))))
 exact absurd (show false = true from hc40) (by decide)
 refine AWP.skip (AWP.seq (AWP.seq (jw [8,7,6,26,5,4,17,3,2,1,0] Z (f7 O [_,_,_,_,_] [pn [] 0 1, pn [] 0 0, pe [1] 0, pe [0,1,2] 1, pn [0,1,2,3] 2 2] [2,3] [_,_,_] (ai (kc O Z (V O Z)) (kc O Z (ai (bl O (B0 := 44000) Z Z Z Z (eg (p := p) h1 h2) (ab Z) Z Z Z Z Z) (ai (cd O (B0 := 45000) Z Z Z Z ((si (s := p) (t := p) h1 h2).plain (u := eB true) (by simp)) (.cons (.agg (.cons (.whole Z (List.length_map _).symm) (.cons (.whole Z (List.length_map _).symm) (.cons (.whole Z (List.length_map _).symm) .nil)))) (.cons (.agg (aw Z)) .nil)) Z Z Z Z Z) (kc O Z trivial))))) ?_))))
 refine jw [45,8,7,6,26,5,4,17,3,2,1,0] Z (ce ?_)
 refine AWP.cond O Z Z (fun hc45 => ?_) (fun hc45 => ?_)
 exact absurd (show false = true from hc45) (by decide)
 refine AWP.skip (ag (js O Z (aR (j2 O Z Z (jf [47,46,9,8,7,6,26,5,4,17,3,2,1,0] Z (ap O [27000,27001,27002] (bin := [dg p.pre, fm p.body, dg p.post]) Z Z Z Z (sg (p := p) (k := 1) h1 h2 (by decide) (by omega)) Z Z Z Z Z Z (B0 := 49000) Z Z (au ?_)))))))
 refine js O Z (jf [9,8,7,6,26,5,4,17,3,2,1,0] Z (jn (AWP.seq (ag (j2 O Z Z ?_)))))
 rw [decide_eq_false (show ¬ (1 + bh nT p.pre + bh nS p.body + bh nT p.post : Int) < 0 by omega)]
 refine js O Z (jf [51,9,8,7,6,26,5,4,17,3,2,1,0] Z (ah Z Z Z Z Z (js O Z (ah Z Z Z Z Z (js O Z (ah Z Z Z Z Z (ae O Z Z Z Z ((qf (xs := r) (ys := r) h1 h2).plain (u := eB true) (by simp)) (.cons (.c (.whole Z (List.length_map _).symm)) (.cons (.c .d) .nil)) Z Z Z Z Z (B0 := 55000) Z (jf [54,51,9,8,7,6,26,5,4,17,3,2,1,0] Z (ah Z Z Z Z Z (js O Z (aa (aZ O Z Z Z Z Z) Z Z Z (js O Z (jf [57,9,8,7,6,26,5,4,17,3,2,1,0] Z ?_)))))))))))))
 refine ah Z Z Z Z Z (js O Z (ah Z Z Z Z Z (js O Z (ah Z Z Z Z Z (js O Z (aa (aZ O Z Z Z Z Z) Z Z Z (jf [61,9,8,7,6,26,5,4,17,3,2,1,0] Z (jn (AWP.cond O Z Z (fun hc61 => ?_) (fun hc61 => ?_))))))))))
 exact absurd (show false = true from hc61) (by decide)
 refine AWP.skip (ag (js O Z (aR (j2 O Z Z (jf [63,62,10,9,8,7,6,26,5,4,17,3,2,1,0] Z (ap O [30000] (bin := [ay r]) Z Z Z Z (sN (ts := r) (k := 1) h1 h2 (by decide) (by omega)) Z Z Z Z Z Z (B0 := 65000) Z Z (au ?_)))))))
 refine js O Z (jf [10,9,8,7,6,26,5,4,17,3,2,1,0] Z (aR (js O Z (aR (j2 O Z Z (ae O Z Z Z Z (jL (ts := r) (k := 1) h1 h2 (by decide) (by omega)) (.cons (.c (.whole Z (by rw [List.length_map, aM]))) (.cons (.c .d) .nil)) Z Z Z Z Z (B0 := 68000) Z (js O Z (jf [11,10,9,8,7,6,26,5,4,17,3,2,1,0] Z (jn (AWP.seq (ag (j2 O Z Z (jn ?_)))))))))))))
 refine AWP.cond O Z Z (fun hc69 => ?_) (fun hc69 => ?_)
 exact absurd (of_decide_eq_true hc69) (by omega)
 refine AWP.skip (AWP.seq (ag (j3 O Z Z Z (jf [72,68,11,10,9,8,7,6,26,5,4,17,3,2,1,0] Z (jn (AWP.cond O Z Z (fun hc72 => ?_) (fun hc72 => ?_)))))))
 exact absurd hc72 (by simp)
 refine AWP.skip (ag (js O Z (jf [74,68,11,10,9,8,7,6,26,5,4,17,3,2,1,0] Z (ao O Z Z Z Z (eg (p := p) h1 h2) (ab Z) Z Z Z Z (B0 := 76000) Z Z (jf [75,68,11,10,9,8,7,6,26,5,4,17,3,2,1,0] Z (aW O (B0 := 77000) Z Z Z Z (ci) (ab Z) Z Z Z Z Z Z (au ?_)))))))
 refine j4 O Z Z Z Z (js O Z (jf [13,12,68,11,10,9,8,7,6,26,5,4,17,3,2,1,0] Z (jn (AWP.seq (ag (j2 O Z Z (jf [80,79,13,68,11,10,9,8,7,6,26,5,4,17,3,2,1,0] Z (ae O Z Z Z Z ((qf (xs := r) (ys := r) h1 h2).plain (u := eB true) (by simp)) (.cons (.c (.whole Z (List.length_map _).symm)) (.cons (.c .d) .nil)) Z Z Z Z Z (B0 := 82000) Z (j2 O Z Z (jf [83,13,68,11,10,9,8,7,6,26,5,4,17,3,2,1,0] Z (ah Z Z Z Z Z (js O Z (jf [84,83,68,11,10,9,8,7,6,26,5,4,17,3,2,1,0] Z ?_)))))))))))))
 refine ah Z Z Z Z Z (js O Z (ah Z Z Z Z Z (js O Z (aa (aZ O Z Z Z Z Z) Z Z Z (jf [87,68,11,10,9,8,7,6,26,5,4,17,3,2,1,0] Z (jn (AWP.cond O Z Z (fun hc87 => ?_) (fun hc87 => ?_))))))))
 exact absurd (show false = true from hc87) (by decide)
 refine AWP.skip (ag (js O Z (aR (j2 O Z Z (jf [89,88,11,68,10,9,8,7,6,26,5,4,17,3,2,1,0] Z (ae O Z Z Z Z (jL (ts := r) (k := 1) h1 h2 (by decide) (by omega)) (.cons (.c (.whole Z (by rw [List.length_map, aM]))) (.cons (.c .d) .nil)) Z Z Z Z Z (B0 := 91000) Z (js O Z (jf [11,68,10,9,8,7,6,26,5,4,17,3,2,1,0] Z (jn (AWP.seq (ag (j2 O Z Z (jn ?_)))))))))))))
 refine AWP.cond O Z Z (fun hc92 => ?_) (fun hc92 => ?_)
 exact absurd (of_decide_eq_true hc92) (by omega)
 refine AWP.skip (AWP.seq (ag (j3 O Z Z Z (jf [95,91,11,68,10,9,8,7,6,26,5,4,17,3,2,1,0] Z (jn (AWP.cond O Z Z (fun hc95 => ?_) (fun hc95 => ?_)))))))
 exact absurd hc95 (by simp)
 refine AWP.skip (ag (js O Z (jn (AWP.ret ?_))))
 refine ⟨.inl Z, _, Ent.refl, _, Z, ?_⟩
 rfl
theorem nP {p : Pm} (cs : MQ h1 h2 23 [aPm p] [] (Plain (.tup [oZ ([] : List Sq), eB false]))) (ci : MQ h1 h2 24 [aPm p] [] (Rows (.tup [.c (.d .nils), eB false]) [])) (hz1 : 0 ≤ dF 1048576 (Al.szs Tm.size p.pre + Al.szs Sm.size p.body + Al.szs Tm.size p.post)) (hcp : 1 + bh nT p.pre + bh nS p.body + bh nT p.post ≤ (1073741824 : Int)) : MQ h1 h2 6 [aPm p] [] (Plain (eB true)) := by
 refine av ?_ Z
 refine jB 96 h1 h2 Tryz.func6 Z Z Z fun O hF => ?_
 have hbig : L ≤ 9223372036854775807 := Nat.le_trans h2 (by decide)
 refine ag (jx O Z Z Z Z Z Z Z Z (au ?_))
 refine js O Z (aR (js O Z (aR (j2 O Z Z (ae O Z Z Z Z (c8 (p := p) (left := 1048576) h1 hbig (by decide) (by decide)) (ab Z) Z Z Z Z Z (B0 := 17000) Z (js O Z (jf [3,2,1,0] Z (jn (AWP.seq (ag (j2 O Z Z (jn (AWP.cond O Z Z (fun hc18 => ?_) (fun hc18 => ?_))))))))))))))
 exact absurd (of_decide_eq_true hc18) (by omega)
 refine AWP.skip (ag (js O Z (jf [20,17,3,2,1,0] Z (ao O Z Z Z Z (eg (p := p) h1 h2) (ab Z) Z Z Z Z (B0 := 22000) Z Z (jf [21,17,3,2,1,0] Z (ao O Z Z Z Z (cs) (ab Z) Z Z Z Z (B0 := 23000) Z Z (j4 O Z Z Z Z (js O Z (jf [5,4,17,3,2,1,0] Z (aR (js O Z (aW O (B0 := 27000) Z Z Z Z (rG (p := p) h1 h2) (ab Z) Z Z Z Z Z Z (au ?_)))))))))))))
 refine jf [26,5,4,17,3,2,1,0] Z (jl O Z Z Z Z Z Z (au ?_))
 refine jo O Z Z Z Z Z Z Z Z Z Z Z Z (au ?_)
 refine aR (js O Z (aW O (B0 := 30000) Z Z Z Z (ci) (.cons (.agg (.cons (.whole Z (List.length_map _).symm) (.cons (.whole Z (List.length_map _).symm) (.cons (.whole Z (List.length_map _).symm) .nil)))) .nil) Z Z Z Z Z Z (au ?_)))
 refine j4 O Z Z Z Z (js O Z (jf [8,7,6,26,5,4,17,3,2,1,0] Z (jn (AWP.seq (ag (j2 O Z Z (ae O Z Z Z Z ((qf (xs := ([] : List Sq)) (ys := ([] : List Sq)) h1 h2).plain (u := eB true) (by simp)) (.cons (.c .nils) (.cons (.c .d) .nil)) Z Z Z Z Z (B0 := 35000) Z (j2 O Z Z (jf [36,8,7,6,26,5,4,17,3,2,1,0] Z (ah Z Z Z Z Z (js O Z (ah Z Z Z Z Z (js O Z ?_)))))))))))))
 refine ah Z Z Z Z Z (js O Z (aa (aZ O Z Z Z Z Z) Z Z Z (jf [40,8,7,6,26,5,4,17,3,2,1,0] Z (jn (AWP.cond O Z Z (fun hc40 => ?_) (fun hc40 => ?_))))))
 exact absurd (show false = true from hc40) (by decide)
 refine AWP.skip (AWP.seq (AWP.seq (jw [8,7,6,26,5,4,17,3,2,1,0] Z (f7 O [_,_,_,_,_] [pn [] 0 1, pn [] 0 0, pe [1] 0, pe [0,1,2] 1, pn [0,1,2,3] 2 2] [2,3] [_,_,_] (ai (kc O Z (V O Z)) (kc O Z (ai (bl O (B0 := 44000) Z Z Z Z (eg (p := p) h1 h2) (ab Z) Z Z Z Z Z) (ai (cd O (B0 := 45000) Z Z Z Z ((si (s := p) (t := p) h1 h2).plain (u := eB true) (by simp)) (.cons (.agg (.cons (.whole Z (List.length_map _).symm) (.cons (.whole Z (List.length_map _).symm) (.cons (.whole Z (List.length_map _).symm) .nil)))) (.cons (.agg (aw Z)) .nil)) Z Z Z Z Z) (kc O Z trivial))))) ?_))))
 refine jw [45,8,7,6,26,5,4,17,3,2,1,0] Z (ce ?_)
 refine AWP.cond O Z Z (fun hc45 => ?_) (fun hc45 => ?_)
 exact absurd (show false = true from hc45) (by decide)
 refine AWP.skip (ag (js O Z (aR (j2 O Z Z (jf [47,46,9,8,7,6,26,5,4,17,3,2,1,0] Z (ap O [27000,27001,27002] (bin := [dg p.pre, fm p.body, dg p.post]) Z Z Z Z (sg (p := p) (k := 1) h1 h2 (by decide) (by omega)) Z Z Z Z Z Z (B0 := 49000) Z Z (au ?_)))))))
 refine js O Z (jf [9,8,7,6,26,5,4,17,3,2,1,0] Z (jn (AWP.seq (ag (j2 O Z Z ?_)))))
 rw [decide_eq_false (show ¬ (1 + bh nT p.pre + bh nS p.body + bh nT p.post : Int) < 0 by omega)]
 refine js O Z (jf [51,9,8,7,6,26,5,4,17,3,2,1,0] Z (ah Z Z Z Z Z (js O Z (ah Z Z Z Z Z (js O Z (ah Z Z Z Z Z (ae O Z Z Z Z ((qf (xs := ([] : List Sq)) (ys := ([] : List Sq)) h1 h2).plain (u := eB true) (by simp)) (.cons (.c .nils) (.cons (.c .d) .nil)) Z Z Z Z Z (B0 := 55000) Z (jf [54,51,9,8,7,6,26,5,4,17,3,2,1,0] Z (ah Z Z Z Z Z (js O Z (aa (aZ O Z Z Z Z Z) Z Z Z (js O Z (jf [57,9,8,7,6,26,5,4,17,3,2,1,0] Z ?_)))))))))))))
 refine ah Z Z Z Z Z (js O Z (ah Z Z Z Z Z (js O Z (ah Z Z Z Z Z (js O Z (aa (aZ O Z Z Z Z Z) Z Z Z (jf [61,9,8,7,6,26,5,4,17,3,2,1,0] Z (jn (AWP.cond O Z Z (fun hc61 => ?_) (fun hc61 => ?_))))))))))
 exact absurd (show false = true from hc61) (by decide)
 refine AWP.skip (ag (js O Z (aR (j2 O Z Z (jf [63,62,10,9,8,7,6,26,5,4,17,3,2,1,0] Z (ae O Z Z Z Z (qV (k := 1) h1 h2) (.cons (.c .nils) (.cons (.c .d) .nil)) Z Z Z Z Z (B0 := 65000) Z (js O Z (jf [10,9,8,7,6,26,5,4,17,3,2,1,0] Z (aR (js O Z (aR (j2 O Z Z (ae O Z Z Z Z ((jL (ts := ([] : List Sq)) (k := 1) h1 h2 (by decide) (by decide)).plain (u := eI 1) Z) (.cons (.c .nils) (.cons (.c .d) .nil)) Z Z Z Z Z (B0 := 68000) Z ?_)))))))))))))
 refine js O Z (jf [11,10,9,8,7,6,26,5,4,17,3,2,1,0] Z (jn (AWP.seq (ag (j2 O Z Z (jn (AWP.cond O Z Z (fun hc69 => ?_) (fun hc69 => ?_))))))))
 exact absurd (of_decide_eq_true hc69) (by decide)
 refine AWP.skip (AWP.seq (ag (j3 O Z Z Z (jf [72,68,11,10,9,8,7,6,26,5,4,17,3,2,1,0] Z (jn (AWP.cond O Z Z (fun hc72 => ?_) (fun hc72 => ?_)))))))
 exact absurd hc72 (by simp)
 refine AWP.skip (ag (js O Z (jf [74,68,11,10,9,8,7,6,26,5,4,17,3,2,1,0] Z (ao O Z Z Z Z (eg (p := p) h1 h2) (ab Z) Z Z Z Z (B0 := 76000) Z Z (jf [75,68,11,10,9,8,7,6,26,5,4,17,3,2,1,0] Z (aW O (B0 := 77000) Z Z Z Z (ci) (ab Z) Z Z Z Z Z Z (au ?_)))))))
 refine j4 O Z Z Z Z (js O Z (jf [13,12,68,11,10,9,8,7,6,26,5,4,17,3,2,1,0] Z (jn (AWP.seq (ag (j2 O Z Z (jf [80,79,13,68,11,10,9,8,7,6,26,5,4,17,3,2,1,0] Z (ae O Z Z Z Z ((qf (xs := ([] : List Sq)) (ys := ([] : List Sq)) h1 h2).plain (u := eB true) (by simp)) (.cons (.c .nils) (.cons (.c .d) .nil)) Z Z Z Z Z (B0 := 82000) Z (j2 O Z Z (jf [83,13,68,11,10,9,8,7,6,26,5,4,17,3,2,1,0] Z (ah Z Z Z Z Z (js O Z (jf [84,83,68,11,10,9,8,7,6,26,5,4,17,3,2,1,0] Z ?_)))))))))))))
 refine ah Z Z Z Z Z (js O Z (ah Z Z Z Z Z (js O Z (aa (aZ O Z Z Z Z Z) Z Z Z (jf [87,68,11,10,9,8,7,6,26,5,4,17,3,2,1,0] Z (jn (AWP.cond O Z Z (fun hc87 => ?_) (fun hc87 => ?_))))))))
 exact absurd (show false = true from hc87) (by decide)
 refine AWP.skip (ag (js O Z (aR (j2 O Z Z (jf [89,88,11,68,10,9,8,7,6,26,5,4,17,3,2,1,0] Z (ae O Z Z Z Z ((jL (ts := ([] : List Sq)) (k := 1) h1 h2 (by decide) (by decide)).plain (u := eI 1) Z) (.cons (.c .nils) (.cons (.c .d) .nil)) Z Z Z Z Z (B0 := 91000) Z (js O Z (jf [11,68,10,9,8,7,6,26,5,4,17,3,2,1,0] Z (jn (AWP.seq (ag (j2 O Z Z (jn ?_)))))))))))))
 refine AWP.cond O Z Z (fun hc92 => ?_) (fun hc92 => ?_)
 exact absurd (of_decide_eq_true hc92) (by decide)
 refine AWP.skip (AWP.seq (ag (j3 O Z Z Z (jf [95,91,11,68,10,9,8,7,6,26,5,4,17,3,2,1,0] Z (jn (AWP.cond O Z Z (fun hc95 => ?_) (fun hc95 => ?_)))))))
 exact absurd hc95 (by simp)
 refine AWP.skip (ag (js O Z (jn (AWP.ret ?_))))
 refine ⟨.inl Z, _, Ent.refl, _, Z, ?_⟩
 rfl
theorem t5 {L : Nat} (h1 : 4096 ≤ L) (h2 : L ≤ 9223372036854775807) {p : Pm} (hz : dF 1048576 (Al.szs Tm.size p.pre + Al.szs Sm.size p.body + Al.szs Tm.size p.post) < 0) : MC Tryz.prog L 6 [aPm p] [] (Plain (eB true)) := by
 refine av ?_ Z
 have O := j8 (nt := 96) h1 h2
 refine MC.body O Tryz.func6 (by kernel_rfl) Z Z (Nat.le_of_ble_eq_true Z) (fun hF => ?_)
 refine ag (jx O Z Z Z Z Z Z Z Z (au ?_))
 refine js O Z (aR (js O Z (aR (j2 O Z Z (ae O Z Z Z Z (c8 (p := p) (left := 1048576) h1 h2 (by decide) (by decide)) (ab Z) Z Z Z Z Z (B0 := 17000) Z (js O Z (jf [3,2,1,0] Z (jn (AWP.seq (ag (j2 O Z Z (jn (AWP.cond O Z Z (fun hc18 => ?_) (fun hc18 => ?_))))))))))))))
 refine ag (js O Z (jn (AWP.ret ?_)))
 refine ⟨.inl Z, _, Ent.refl, _, Z, ?_⟩
 rfl
 exact absurd (of_decide_eq_false hc18) (fun h => h hz)
theorem i5 (b : List Sm) : bh nS b ≤ 5 * szs Sm.size b := by
 unfold bh szs
 induction b with
 | nil => simp
 | cons t r ih =>
  simp only [List.map_cons, List.sum_cons, List.length_cons] at ih ⊢
  have h1 : nS t = 5 + t.sum.xs.length + t.index.xs.length + bh nT t.facts := rfl
  have h2 : Sm.size t = t.sum.xs.length + t.index.xs.length + szs Tm.size t.facts := rfl
  have h3 := er t.facts
  omega
theorem pN {L S : Nat} {b : List Sm} (h : D.fact L (e6 b)) (hl : szs Sm.size b ≤ S) : D.fact S (e6 b) := by
 unfold szs at hl
 simp only [D.fact, List.length_map, eC] at h ⊢
 refine ⟨by omega, fun s hs => ?_⟩
 have h1 := h.2 s hs
 have h2 := mh Sm.size hs
 have h3 : Sm.size s = s.sum.xs.length + s.index.xs.length + szs Tm.size s.facts := rfl
 exact ⟨h1.1, h1.2.1, h1.2.2.1, h1.2.2.2.1, jv h1.2.2.2.2.1 (by omega), h1.2.2.2.2.2.1, jv h1.2.2.2.2.2.2.1 (by omega), kB h1.2.2.2.2.2.2.2.1 (by omega), trivial⟩
theorem kk {L S : Nat} {p : Pm} (h : A.fact L (aPm p)) (hl : szs Tm.size p.pre + szs Sm.size p.body + szs Tm.size p.post ≤ S) : A.fact S (aPm p) :=
  ⟨kB h.1 (by omega), pN h.2.1 (by omega), kB h.2.2.1 (by omega), trivial⟩
theorem el (p : Pm) : cE p = dK p := by
 unfold cE dK
 rw [sc]
 cases qc p.body <;> cases cD p.pre 6 <;> rfl
theorem oL {p : Pm} (hp : cE p = true) : ∃ t, PtOk p t ∧ rD p.body = t.d := by
 have htb : qc p.body = true := by
  have h := hp
  rw [el] at h
  unfold dK at h; simp only [Bool.and_eq_true] at h; exact h.1
 obtain ⟨t, g1, g2, g3⟩ := mX htb
 have hc := mV (show bV (p.body.length + 1) p.body 0 = some (t, p.body.length) from g1)
 unfold cE gf at hp
 simp only [Bool.and_eq_true, decide_eq_true_eq] at hp
 obtain ⟨q1, ⟨⟨⟨q2, q3⟩, q4, q5⟩, q6⟩⟩ := hp
 refine ⟨t, ⟨by omega, g1, hc.2.1, by have := hc.2.2; omega, fun k hk => ?_, q1, q6⟩, g3⟩
 rw [aK hk]
 exact List.all_eq_true.1 q4 _ (List.getElem_mem hk)
theorem kr {p : Pm} {t : Tr} (ht : PtOk p t) : (p.pre :: (dG t).lp.map (·.s.facts)).length = aU p.body p.body.length + 1 := by
 have : (dG t).lp.length = aU p.body p.body.length := (jI ht.tree).1.len
 rw [List.length_cons, List.length_map, this]
theorem nK {p : Pm} {t : Tr} (ht : PtOk p t) (k : Int) : gb (-1) (((p.pre :: (dG t).lp.map (·.s.facts)).length : Int) - 2) k = mH p k := by
 rw [kr ht]
 unfold gb mH
 rw [show ((aU p.body p.body.length + 1 : Nat) : Int) - 2 = (aU p.body p.body.length : Int) - 1 by omega]
abbrev gI (p : Pm) (t : Tr) (n : Nat) : Gs := fJ bJ p t n g0
abbrev gS (p : Pm) (t : Tr) (n : Nat) : Gs := fJ aY p t n g0
theorem uJ {p : Pm} {t : Tr} {n : Nat} : GEq (gI p t n) (gS p t n) := m3
theorem sq {L : Nat} (h1 : 4096 ≤ L) (h2 : L ≤ 1073741824) (hL : 600000000 ≤ L) {p : Pm} {t : Tr} (ht : PtOk p t) {n : Nat} (hn : n ≤ aU p.body p.body.length) : MC Tryz.prog L 58 [.c (.pt 0 0 0), eB false, eI ((n : Int) - 1), .c (.fb 59 [.pt 0 0 0])] (qj p t g0) (bb (eB (!(gI p t n).bad)) (mG p t (gI p t n))) := by
 have hl := kr ht
 have hnl := cU (b := p.body) (k := p.body.length)
 have hlen := ht.len
 exact tK h1 h2 (by omega) (by rw [nK ht]; unfold mH; rw [decide_eq_true (by omega), decide_eq_true (by omega)]; rfl)
  (sI h1 h2 ht hn lq (by omega))
theorem sO {L : Nat} (h1 : 4096 ≤ L) (h2 : L ≤ 1073741824) (hL : 600000000 ≤ L) {p : Pm} {t : Tr} (ht : PtOk p t) : MC Tryz.prog L 58 [.c (.pt 0 0 0), eB true, eI 0, .c (.fb 59 [.pt 0 0 0])] (qj p t g0) (bb (eB (!(jc p t (aU p.body p.body.length + 1)).bad)) (mG p t (jc p t (aU p.body p.body.length + 1)))) := by
 have hl := kr ht
 have hnl := cU (b := p.body) (k := p.body.length)
 have hlen := ht.len
 have hst : ∀ i, (jc p t i).bad = true → jc p t (i + 1) = jc p t i := fun i h => by rw [jc, fJ, lD h]
 have hok : ∀ i, i ≤ aU p.body p.body.length + 1 → GOk (i * 16252928) (jc p t i) := fun i hi => by
  induction i with
  | zero => rw [jc]; exact lq.le (Nat.zero_le _)
  | succ i ih =>
    rw [jc, fJ]
    exact (iQ ht.e ht.tree ht.nodes (by omega) (ih (by omega))).le (by omega)
 have := tL (p := p) (t := t) (k := 0) (al := jc p t) h1 h2 (by omega) hst Z (fun i hi hb => by
  rw [jc]
  exact sI h1 h2 ht (by omega) (hok i (by omega)) (by omega))
 rw [hl] at this
 exact this
/-- The laws hold for all arguments. -/
theorem law1126 {L : Nat} (h1 : 4096 ≤ L) (h2 : L ≤ 9223372036854775807) {p : Pm} {k : Int} : MC Tryz.prog L 3 [aPm p, eI k] [] (Plain (eB true)) := by
 by_cases hz1 : dF 1048576 (szs Tm.size p.pre + szs Sm.size p.body + szs Tm.size p.post) < 0
 exact ub h1 h2 hz1
 have hz1' : 0 ≤ dF 1048576 (szs Tm.size p.pre + szs Sm.size p.body + szs Tm.size p.post) := by omega
 have g1 := fV hz1' (by decide)
 have k1 := er p.pre
 have k2 := i5 p.body
 have k3 := er p.post
 have hcp : 1 + bh nT p.pre + bh nS p.body + bh nT p.post ≤ (1073741824 : Int) := by omega
 refine MC.facts ⟨_, _, Tryz.func3, by kernel_rfl, Z⟩ fun hF => ?_
 refine kl (L0 := 1073741824) Z ?_ ?_
 exact ⟨kk hF.1 (by omega), hF.2⟩
 cases hp : cE p with
 | false => exact nR (by decide) (Nat.le_refl _) (nl (by decide) (Nat.le_refl _) (fun h => by rw [hp] at h; cases h) (fun h => by rw [hp] at h; cases h)) (nO (by decide) (Nat.le_refl _) (l8 (by decide) (Nat.le_refl _) (by rw [← el]; exact hp))) hz1' hcp
 | true =>
  obtain ⟨t, ht, htd⟩ := oL hp
  have hv : dK p = true := by rw [← el]; exact hp
  have hlen := ht.len
  have hnl := cU (b := p.body) (k := p.body.length)
  have hl := kr ht
  cases hs : mH p k with
  | false => exact nR (by decide) (Nat.le_refl _) (nl (by decide) (Nat.le_refl _) (fun _ => by omega) (fun _ => hs)) (nO (by decide) (Nat.le_refl _) (jp (by decide) (Nat.le_refl _) hv htd ht (qN (by decide) (Nat.le_refl _) (by omega) (by rw [nK ht]; exact hs)))) hz1' hcp
  | true =>
   have hs' := hs
   unfold mH at hs'
   simp only [Bool.and_eq_true, decide_eq_true_eq] at hs'
   obtain ⟨n, rfl⟩ : ∃ n : Nat, k = (n : Int) - 1 := ⟨(k + 1).toNat, by omega⟩
   have hn : n ≤ aU p.body p.body.length := by omega
   have he := uJ (p := p) (t := t) (n := n)
   have hP := sq (L := 1073741824) (by decide) (Nat.le_refl _) (by decide) ht hn
   have hR := vL (L := 1073741824) (by decide) (Nat.le_refl _) ht hp hn (by decide) (rfl : fJ aY p t n g0 = gS p t n)
   cases hb : (gI p t n).bad with
   | true =>
    rw [hb] at hP
    rw [show (fJ aY p t n g0).bad = true from he.bad ▸ hb] at hR
    exact nR (by decide) (Nat.le_refl _) hR (nO (by decide) (Nat.le_refl _) (jp (by decide) (Nat.le_refl _) hv htd ht hP)) hz1' hcp
   | false =>
    have e : gI p t n = fJ aY p t n g0 := he.eq hb
    rw [hb] at hP
    rw [← e, hb] at hR
    have hps : bh dh (gI p t n).paths ≤ 1000 * (gI p t n).paths.length := nM (sn (la := bJ) ht hn (g := g0) (fun p hp => by cases hp))
    have hgo : (gI p t n).paths.length ≤ 201 := (iQ (la := bJ) (pre := p.pre) ht.e ht.tree ht.nodes hn lq).paths
    exact ua (r := (gI p t n).paths) (by decide) (Nat.le_refl _) Z (by omega) hR (t3 (by decide) (Nat.le_refl _) (jm (by decide) (Nat.le_refl _) hv htd ht hP)) hz1' hcp
theorem law1128 {L : Nat} (h1 : 4096 ≤ L) (h2 : L ≤ 9223372036854775807) {p : Pm} {k : Int} : MC Tryz.prog L 5 [aPm p, eI k] [] (Plain (eB true)) := by
 by_cases hz1 : dF 1048576 (szs Tm.size p.pre + szs Sm.size p.body + szs Tm.size p.post) < 0
 exact t7 h1 h2 hz1
 have hz1' : 0 ≤ dF 1048576 (szs Tm.size p.pre + szs Sm.size p.body + szs Tm.size p.post) := by omega
 have g1 := fV hz1' (by decide)
 have k1 := er p.pre
 have k2 := i5 p.body
 have k3 := er p.post
 have hcp : 1 + bh nT p.pre + bh nS p.body + bh nT p.post ≤ (1073741824 : Int) := by omega
 refine MC.facts ⟨_, _, Tryz.func5, by kernel_rfl, Z⟩ fun hF => ?_
 refine kl (L0 := 1073741824) Z ?_ ?_
 exact ⟨kk hF.1 (by omega), hF.2⟩
 cases hp : cE p with
 | false => exact l9 (by decide) (Nat.le_refl _) (nk (by decide) (Nat.le_refl _) (fun h => by rw [hp] at h; cases h) (fun h => by rw [hp] at h; cases h)) (nN (by decide) (Nat.le_refl _) (l8 (by decide) (Nat.le_refl _) (by rw [← el]; exact hp))) hz1' hcp
 | true =>
  obtain ⟨t, ht, htd⟩ := oL hp
  have hv : dK p = true := by rw [← el]; exact hp
  have hlen := ht.len
  have hnl := cU (b := p.body) (k := p.body.length)
  have hl := kr ht
  cases hs : mH p k with
  | false => exact l9 (by decide) (Nat.le_refl _) (nk (by decide) (Nat.le_refl _) (fun _ => by omega) (fun _ => hs)) (nN (by decide) (Nat.le_refl _) (jp (by decide) (Nat.le_refl _) hv htd ht (qN (by decide) (Nat.le_refl _) (by omega) (by rw [nK ht]; exact hs)))) hz1' hcp
  | true =>
   have hs' := hs
   unfold mH at hs'
   simp only [Bool.and_eq_true, decide_eq_true_eq] at hs'
   obtain ⟨n, rfl⟩ : ∃ n : Nat, k = (n : Int) - 1 := ⟨(k + 1).toNat, by omega⟩
   have hn : n ≤ aU p.body p.body.length := by omega
   have he := uJ (p := p) (t := t) (n := n)
   have hP := sq (L := 1073741824) (by decide) (Nat.le_refl _) (by decide) ht hn
   have hR := vK (L := 1073741824) (by decide) (Nat.le_refl _) ht hp hn (by decide) (rfl : fJ aY p t n g0 = gS p t n)
   cases hb : (gI p t n).bad with
   | true =>
    rw [hb] at hP
    rw [show (fJ aY p t n g0).bad = true from he.bad ▸ hb] at hR
    exact l9 (by decide) (Nat.le_refl _) hR (nN (by decide) (Nat.le_refl _) (jp (by decide) (Nat.le_refl _) hv htd ht hP)) hz1' hcp
   | false =>
    have e : gI p t n = fJ aY p t n g0 := he.eq hb
    rw [hb] at hP
    rw [← e, hb] at hR
    have hgo : (gI p t n).conds.length ≤ 0 + 16252928 := (iQ (la := bJ) (pre := p.pre) ht.e ht.tree ht.nodes hn lq).conds
    cases hc : df (gI p t n).conds with
    | true =>
     rw [hc] at hR
     exact t6 (r := (gI p t n).conds) (by decide) (Nat.le_refl _) Z (by have := lQ hc; omega) hR (tZ (by decide) (Nat.le_refl _) (jm (by decide) (Nat.le_refl _) hv htd ht hP) (by omega) hc) hz1' hcp
    | false =>
     rw [hc] at hR
     exact l9 (by decide) (Nat.le_refl _) hR (t0 (by decide) (Nat.le_refl _) (jm (by decide) (Nat.le_refl _) hv htd ht hP) (by omega) hc) hz1' hcp
theorem law1127 {L : Nat} (h1 : 4096 ≤ L) (h2 : L ≤ 9223372036854775807) {p : Pm} : MC Tryz.prog L 4 [aPm p] [] (Plain (eB true)) := by
 by_cases hz1 : dF 1048576 (szs Tm.size p.pre + szs Sm.size p.body + szs Tm.size p.post) < 0
 exact t9 h1 h2 hz1
 have hz1' : 0 ≤ dF 1048576 (szs Tm.size p.pre + szs Sm.size p.body + szs Tm.size p.post) := by omega
 have g1 := fV hz1' (by decide)
 have k1 := er p.pre
 have k2 := i5 p.body
 have k3 := er p.post
 have hcp : 1 + bh nT p.pre + bh nS p.body + bh nT p.post ≤ (1073741824 : Int) := by omega
 refine MC.facts ⟨_, _, Tryz.func4, by kernel_rfl, Z⟩ fun hF => ?_
 refine kl (L0 := 1073741824) Z ?_ ?_
 exact ⟨kk hF.1 (by omega), trivial⟩
 cases hp : cE p with
 | false => exact qU (by decide) (Nat.le_refl _) (rq (by decide) (Nat.le_refl _) hp) (qS (by decide) (Nat.le_refl _) (l8 (by decide) (Nat.le_refl _) (by rw [← el]; exact hp))) hz1' hcp
 | true =>
  obtain ⟨t, ht, htd⟩ := oL hp
  have hv : dK p = true := by rw [← el]; exact hp
  have hlen := ht.len
  have hnl := cU (b := p.body) (k := p.body.length)
  obtain ⟨he, hpl⟩ := qz (p := p) (t := t) (aU p.body p.body.length + 1)
  have hP := sO (L := 1073741824) (by decide) (Nat.le_refl _) (by decide) ht
  have hA := sK (L := 1073741824) (by decide) (Nat.le_refl _) ht (by decide)
  have hps := qy ht (Nat.le_refl _)
  have hgo := (nW ht (aU p.body p.body.length + 1) (Nat.le_refl _)).1
  generalize jc p t (aU p.body p.body.length + 1) = x at he hpl hP hps
  generalize eG p t (aU p.body p.body.length + 1) = y at he hA hgo
  cases hb : x.bad with
  | true =>
   rw [hb] at hP
   rw [show y.bad = true from he.bad ▸ hb] at hA
   exact qU (by decide) (Nat.le_refl _) (sL (by decide) (Nat.le_refl _) hp hA) (qS (by decide) (Nat.le_refl _) (jp (by decide) (Nat.le_refl _) hv htd ht hP)) hz1' hcp
  | false =>
   have e := he.eq hb
   subst e
   rw [hb] at hP hA
   exact t8 (r := x.paths) (by decide) (Nat.le_refl _) Z (by have := hpl hb; have := nM hps; omega) (sL (by decide) (Nat.le_refl _) hp hA) (t2 (by decide) (Nat.le_refl _) (jm (by decide) (Nat.le_refl _) hv htd ht hP)) hz1' hcp
theorem law1129 {L : Nat} (h1 : 4096 ≤ L) (h2 : L ≤ 9223372036854775807) {p : Pm} : MC Tryz.prog L 6 [aPm p] [] (Plain (eB true)) := by
 by_cases hz1 : dF 1048576 (szs Tm.size p.pre + szs Sm.size p.body + szs Tm.size p.post) < 0
 exact t5 h1 h2 hz1
 have hz1' : 0 ≤ dF 1048576 (szs Tm.size p.pre + szs Sm.size p.body + szs Tm.size p.post) := by omega
 have g1 := fV hz1' (by decide)
 have k1 := er p.pre
 have k2 := i5 p.body
 have k3 := er p.post
 have hcp : 1 + bh nT p.pre + bh nS p.body + bh nT p.post ≤ (1073741824 : Int) := by omega
 refine MC.facts ⟨_, _, Tryz.func6, by kernel_rfl, Z⟩ fun hF => ?_
 refine kl (L0 := 1073741824) Z ?_ ?_
 exact ⟨kk hF.1 (by omega), trivial⟩
 cases hp : cE p with
 | false => exact nP (by decide) (Nat.le_refl _) (ro (by decide) (Nat.le_refl _) hp) (qR (by decide) (Nat.le_refl _) (l8 (by decide) (Nat.le_refl _) (by rw [← el]; exact hp))) hz1' hcp
 | true =>
  obtain ⟨t, ht, htd⟩ := oL hp
  have hv : dK p = true := by rw [← el]; exact hp
  have hlen := ht.len
  have hnl := cU (b := p.body) (k := p.body.length)
  obtain ⟨he, hpl⟩ := qz (p := p) (t := t) (aU p.body p.body.length + 1)
  have hP := sO (L := 1073741824) (by decide) (Nat.le_refl _) (by decide) ht
  have hA := sK (L := 1073741824) (by decide) (Nat.le_refl _) ht (by decide)
  have hps := qy ht (Nat.le_refl _)
  have hgo := (nW ht (aU p.body p.body.length + 1) (Nat.le_refl _)).1
  generalize jc p t (aU p.body p.body.length + 1) = x at he hpl hP hps
  generalize eG p t (aU p.body p.body.length + 1) = y at he hA hgo
  cases hb : x.bad with
  | true =>
   rw [hb] at hP
   rw [show y.bad = true from he.bad ▸ hb] at hA
   exact nP (by decide) (Nat.le_refl _) (tY (by decide) (Nat.le_refl _) hp hA) (qR (by decide) (Nat.le_refl _) (jp (by decide) (Nat.le_refl _) hv htd ht hP)) hz1' hcp
  | false =>
   have e := he.eq hb
   subst e
   rw [hb] at hP hA
   have hgl : x.conds.length ≤ 600000000 := by
    have : (aU p.body p.body.length + 1) * 16252928 ≤ 31 * 16252928 := Nat.mul_le_mul_right _ (by omega)
    omega
   cases hc : df x.conds with
   | true => exact t4 (r := x.conds) (by decide) (Nat.le_refl _) Z (by have := lQ hc; omega) (tW (by decide) (Nat.le_refl _) hp hA hc) (tU (by decide) (Nat.le_refl _) (jm (by decide) (Nat.le_refl _) hv htd ht hP) (by omega) hc) hz1' hcp
   | false => exact nP (by decide) (Nat.le_refl _) (tX (by decide) (Nat.le_refl _) hp hA hc) (tV (by decide) (Nat.le_refl _) (jm (by decide) (Nat.le_refl _) hv htd ht hP) (by omega) hc) hz1' hcp
end Go.Al
/- What the laws of programs share: the types of their arguments. -/
namespace Go.Proofs.YtbonielldgjhiaaGreat
open Go.ChangeShapes Go.WideShapes Go.ChangeAt Go.RowKit Go.Al
abbrev sP : List Ty := [.int .i64, .int .i64, .int .i64, .int .i64, .slc qh, .int .i64, .slc qh, .slc oG]
theorem vn : TyOf Tryz.prog 94 sP := .struct Tryz.underlying94 (show FieldsAre Tryz.prog _ (qh ++ (qh ++ (qh ++ (oG ++ (oG ++ ([.slc oG] ++ [])))))) 0 from
  .cons Z (by kernel_rfl) um (.cons Z (by kernel_rfl) um (.cons Z (by kernel_rfl) um (.cons Z (by kernel_rfl) sS (.cons Z (by kernel_rfl) sS (.cons Z (by kernel_rfl) sT .nil)))))) (by kernel_rfl)
theorem wM : TyOf Tryz.prog 23 [.slc sP] := .slc Tryz.underlying23 vn (by kernel_rfl) (by decide)
theorem of25 : TyOf Tryz.prog 25 [.slc oG, .slc sP, .slc oG] := .struct Tryz.underlying25 (show FieldsAre Tryz.prog _ ([.slc oG] ++ ([.slc sP] ++ ([.slc oG] ++ []))) 0 from
  .cons Z (by kernel_rfl) sT (.cons Z (by kernel_rfl) wM (.cons Z (by kernel_rfl) sT .nil))) (by kernel_rfl)
theorem pM {e : List D} (h : FitsL sP e) : ∃ s : Sm, e = s.cells := by
 cases h with
 | cons a1 h =>
  cases h with
  | cons a2 h =>
   cases h with
   | cons a3 h =>
    cases h with
    | cons a4 h =>
     cases h with
     | cons a5 h =>
      cases h with
      | cons a6 h =>
       cases h with
       | cons a7 h =>
        cases h with
        | cons a8 h =>
         cases h
         obtain ⟨n1, rfl⟩ := eQ a1
         obtain ⟨n2, rfl⟩ := eQ a2
         obtain ⟨n3, rfl⟩ := eQ a3
         obtain ⟨n4, rfl⟩ := eQ a4
         obtain ⟨x5, rfl⟩ := ju a5
         obtain ⟨n6, rfl⟩ := eQ a6
         obtain ⟨x7, rfl⟩ := ju a7
         obtain ⟨x8, rfl⟩ := iy a8
         exact ⟨⟨n1, n2, n3, ⟨n4, x5⟩, ⟨n6, x7⟩, x8⟩, Z⟩
theorem og {d : D} (h : Fits (.slc sP) d) : ∃ b, d = e6 b := by
 cases h with
 | slc h =>
  obtain ⟨xs, rfl⟩ := iY (g := Sm.cells) (fun e he => pM he) h
  exact ⟨xs, Z⟩
theorem fits_prog {e : List D} (h : FitsL [.slc oG, .slc sP, .slc oG] e) : ∃ p : Pm, e = p.data := by
 cases h with
 | cons a1 h =>
  cases h with
  | cons a2 h =>
   cases h with
   | cons a3 h =>
    cases h
    obtain ⟨x1, rfl⟩ := iy a1
    obtain ⟨x2, rfl⟩ := og a2
    obtain ⟨x3, rfl⟩ := iy a3
    exact ⟨⟨x1, x2, x3⟩, Z⟩
end Go.Proofs.YtbonielldgjhiaaGreat
