/- A run follows exactly one path; bodies that are drawn. -/
import Derived.Test.YtnnbiajhcolfiaaGreatF
import Derived.Test.YtnnbiajhcolfiaaGreatE
import Derived.Test.YtnnbiajhcolfiaaGreatG
set_option linter.unusedVariables false
set_option linter.unusedSimpArgs false
set_option maxRecDepth 10000
open Go.Proofs
namespace Go.Al
theorem iq {ys : List Int} : dS [] ys = 0 := by cases ys <;> rfl
theorem iI {xs : List Int} : dS xs [] = 0 := by cases xs <;> rfl
theorem mR : ∀ {xs ys : List Int}, dS (xs ++ [0]) ys = dS xs ys
 | [], [] => rfl
 | [], y :: ys => by
  show 0 * y + dS [] ys = 0
  rw [iq]; omega
 | x :: xs, [] => rfl
 | x :: xs, y :: ys => by
  show x * y + dS (xs ++ [0]) ys = x * y + dS xs ys
  rw [mR]
theorem oP {ys : List Int} : ∀ {n : Nat} {xs : List Int}, xs.length = n → dS (df xs) ys = dS xs ys
 | 0, xs, h => by
  obtain rfl := List.length_eq_zero_iff.1 h
  rfl
 | n + 1, xs, h => by
  have hne : xs ≠ [] := by intro e; rw [e] at h; cases h
  have e := (List.dropLast_concat_getLast hne).symm
  by_cases h0 : xs.getLast hne = 0
  rw [h0] at e
  rw [e, kd, mR]
  exact oP (n := n) (by rw [List.length_dropLast]; omega)
  rw [e, mD h0]
theorem nI {m : Int} {f g : Nat → Int} : ∀ {ks : List Nat} {ys : List Int}, dS (ks.map fun k => m * f k + g k) ys = m * dS (ks.map f) ys + dS (ks.map g) ys
 | [], ys => by simp only [List.map_nil, iq]; omega
 | k :: ks, [] => by simp only [iI]; omega
 | k :: ks, y :: ys => by
  simp only [List.map_cons, dS]
  rw [nI, Int.add_mul, Int.mul_add, Int.mul_assoc]
  omega
theorem dY : ∀ {n : Nat} {xs ys : List Int}, xs.length ≤ n → dS ((List.range n).map fun k => xs.getD k 0) ys = dS xs ys
 | 0, xs, ys, h => by
  obtain rfl := List.length_eq_zero_iff.1 (Nat.le_zero.1 h)
  rfl
 | n + 1, xs, [], h => by rw [iI, iI]
 | n + 1, [], y :: ys, h => by
  rw [List.range_succ_eq_map, List.map_cons, List.map_map]
  have := dY (n := n) (xs := []) (ys := ys) (dF _)
  show 0 * y + dS ((List.range n).map _) ys = 0
  rw [iq] at this
  rw [show dS ((List.range n).map ((fun k => ([] : List Int).getD k 0) ∘ Nat.succ)) ys = dS ((List.range n).map fun k => ([] : List Int).getD k 0) ys from Z, this]
  omega
 | n + 1, x :: xs, y :: ys, h => by
  rw [List.range_succ_eq_map, List.map_cons, List.map_map]
  have := dY (n := n) (xs := xs) (ys := ys) (by simpa using h)
  show x * y + dS ((List.range n).map ((fun k => (x :: xs).getD k 0) ∘ Nat.succ)) ys = x * y + dS xs ys
  rw [← this]; rfl
theorem oQ {ys : List Int} : ∀ {ts : List Tm} {ms : List Int}, (∀ t ∈ ts, t.xs.length ≤ 10) → dS (cj ts ms) ys = bS (fun t => dS t.xs ys) ts ms
 | [], ms, h => by
  have h0 : cj [] ms = (List.range 10).map fun k => ([] : List Int).getD k 0 := by
   unfold cj; exact List.map_congr_left fun k _ => by simp [bS]
  rw [h0, dY (dF _), iq]; rfl
 | t :: ts, [], h => by
  have h0 : cj (t :: ts) [] = (List.range 10).map fun k => ([] : List Int).getD k 0 := by
   unfold cj; exact List.map_congr_left fun k _ => by simp [bS]
  rw [h0, dY (dF _), iq]; rfl
 | t :: ts, m :: ms, h => by
  have h1 : cj (t :: ts) (m :: ms) = (List.range 10).map fun k => m * t.xs.getD k 0 + bS (m8 k) ts ms := rfl
  rw [h1, nI (f := fun k => t.xs.getD k 0) (g := fun k => bS (m8 k) ts ms), dY (h t (by simp))]
  have h2 := oQ (ys := ys) (ts := ts) (ms := ms) (fun u hu => h u (by simp [hu]))
  unfold cj at h2
  rw [h2]; rfl
theorem oS {f g : Tm → Int} : ∀ {ts : List Tm} {ms : List Int}, bS f ts ms + bS g ts ms = bS (fun t => f t + g t) ts ms
 | [], ms => by simp [bS]
 | t :: ts, [] => by simp [bS]
 | t :: ts, m :: ms => by
  simp only [bS]
  rw [← oS, Int.mul_add]; omega
theorem oR {f : Tm → Int} : ∀ {ts : List Tm} {ms : List Int}, bS f ts ms = dS ms (ts.map f)
 | [], ms => by rw [List.map_nil, iI]; simp [bS]
 | t :: ts, [] => by simp [bS, dS]
 | t :: ts, m :: ms => by simp only [bS, List.map_cons, dS]; rw [oR]
theorem AM {t : Tm} (h : t.ok = true) : t.xs.length ≤ 10 := by
 unfold Tm.ok at h
 cases h1 : decide ((10 : Int) < t.xs.length) with
 | true => rw [h1] at h; simp at h
 | false => have := cp h1; omega
theorem qU {c : Int} {xs v : List Int} (h : (me c xs).2 = true) : aT (me c xs).1 v = c + dS xs v := by
 unfold me at h ⊢
 split
 show c + dS (df xs) v = _
 rw [oP Z]
 rename_i hn; rw [if_neg hn] at h; cases h
theorem lE {t : Tm} {vs : List Tm} {v : List Int} (hv : ∀ u ∈ vs, u.ok = true) (h : (aD t vs).2 = true) : aT (aD t vs).1 v = aT t (vs.map fun u => aT u v) := by
 unfold aD at h ⊢
 rw [qU h, oQ (fun u hu => AM (hv u hu)), Int.add_assoc, oS, oR]
 rfl
theorem tC {t : Tm} {v : List Int} (ht : t.ok = true) (h : (bu t).2 = true) : aT (bu t).1 v = -aT t v - 1 := by
 unfold bu rd at h ⊢
 rw [qU h]
 have h1 : iK t (-1) ⟨1, []⟩ (-1) = (List.range 10).map fun k => -1 * t.xs.getD k 0 + ([] : List Int).getD k 0 := by
  unfold iK; exact List.map_congr_left fun k _ => by simp
 rw [h1, nI (f := fun k => t.xs.getD k 0) (g := fun k => ([] : List Int).getD k 0), dY (AM ht), dY (dF _), iq]
 unfold aT
 show -1 * t.c + -1 * 1 + (-1 * dS t.xs v + 0) = _
 omega
def gA : List Tr → RS → Bool × RS
  | [], r => (true, r)
  | t :: ts, r => if (aU t r).1 = true then gA ts (aU t r).2 else (false, (aU t r).2)
def flat : Tr → Bool
  | .node s a [x, y] => flat x && flat y
  | .node s a [] => !decide (s.kind = 3)
  | .node s a _ => false
def cO (ts : List Tr) : Bool := ts.all flat
theorem tp {s : Sm} {a : Int} {x y : Tr} {ts : List Tr} {r : RS} (hk : s.kind = 1) : gA (.node s a [x, y] :: ts) r = gA (x :: y :: ts) r := by
 simp only [gA]
 rw [dR, if_pos hk]
 by_cases h : (aU x r).1 = true
 rw [if_pos h, if_pos h]
 rw [if_neg h, if_neg h, if_neg Bool.false_ne_true]
theorem rn {r : RS} : (aL r).2.vars = r.vars ∧ (aL r).2.events = r.events := by
 unfold aL; split <;> exact ⟨rfl, rfl⟩
theorem uz {s : Sm} {a : Int} {x y : Tr} {ts : List Tr} {r : RS} (hk : ¬ s.kind = 1) (h : (gA (.node s a [x, y] :: ts) r).1 = true) :
    gA (.node s a [x, y] :: ts) r = if 0 ≤ aT s.sum r.vars then gA (x :: ts) (aL r).2 else gA (y :: ts) (aL r).2 := by
 simp only [gA] at h ⊢
 rw [dR, if_neg hk] at h ⊢
 by_cases h1 : (aL r).1 = true
 rw [if_pos h1, rn.1] at h ⊢
 split <;> rfl
 rw [if_neg h1, if_neg Bool.false_ne_true] at h
 exact absurd h Bool.false_ne_true
theorem ry {s : Sm} {a : Int} {ts : List Tr} {r : RS} (h : (gA (.node s a [] :: ts) r).1 = true) :
    (leaf s (aL r).2).1 = true ∧ gA (.node s a [] :: ts) r = gA ts (leaf s (aL r).2).2 := by
 simp only [gA] at h ⊢
 rw [bT] at h ⊢
 by_cases h1 : (aL r).1 = true
 rw [if_pos h1] at h ⊢
 by_cases h2 : (leaf s (aL r).2).1 = true
 rw [if_pos h2] at h ⊢; exact ⟨h2, rfl⟩
 rw [if_neg h2] at h; exact absurd h Bool.false_ne_true
 rw [if_neg h1, if_neg Bool.false_ne_true] at h
 exact absurd h Bool.false_ne_true
structure At (v : List Int) (w : Pw) (r : RS) : Prop where
  vars : r.vars = w.vars.map fun u => aT u v
  ev : r.events = w.ev
  hold : dg w.facts v = true
theorem kj {ts : List Tm} {t : Tm} {v : List Int} : dg (ts ++ [t]) v = (dg ts v && decide (0 ≤ aT t v)) := by
 unfold dg; rw [List.all_append]; simp
theorem oI {fs gs : List Tm} {v : List Int} (h : fs <+: gs) (hn : dg fs v = false) : dg gs v = false := by
 obtain ⟨k, rfl⟩ := h
 unfold dg at hn ⊢
 rw [List.all_append, hn, Bool.false_and]
theorem uI {la : cF} {s : Sm} {w : Pw} {g : Gs} {r : RS} {v : List Int} (h3 : ¬ s.kind = 3) (hok : ∀ u ∈ w.vars, u.ok = true) (hb : (bo la s w g).2.bad = false) (h : At v w r) (hl : (leaf s (aL r).2).1 = true) : At v (bo la s w g).1 (leaf s (aL r).2).2 := by
 have hv := rn (r := r)
 unfold bo at hb ⊢
 unfold leaf at hl ⊢
 by_cases h2 : s.kind = 2
 rw [if_pos h2] at hb ⊢
 rw [if_pos h2] at hl ⊢
 simp only [aR, Gs.flag, Bool.or_eq_false_iff, Bool.not_eq_false'] at hb
 have e := lE (v := v) hok hb.2
 rw [hv.1] at hl ⊢
 split at hl
 rename_i hbg
 rw [if_pos hbg]
 refine ⟨?_, by show (aL r).2.events = w.ev; rw [hv.2]; exact h.ev, h.hold⟩
 show r.vars.set s.var.toNat (aT s.sum r.vars) = (w.vars.set s.var.toNat (aD s.sum w.vars).1).map _
 rw [List.map_set, e, h.vars]
 cases hl
 rw [if_neg h2] at hb ⊢
 rw [if_neg h2] at hl ⊢
 rw [if_neg h3] at hb ⊢
 rw [if_neg h3] at hl ⊢
 by_cases h4 : s.kind = 4
 rw [if_pos h4] at hb ⊢
 rw [if_pos h4] at hl ⊢
 split at hl
 rename_i hi
 rw [if_pos hi]
 split at hl
 rename_i hbg
 rw [if_pos hbg]
 exact ⟨hv.1.trans h.vars, hv.2.trans h.ev, h.hold⟩
 cases hl
 cases hl
 rw [if_neg h4] at hb ⊢
 rw [if_neg h4] at hl ⊢
 by_cases h5 : s.kind = 5
 rw [if_pos h5] at hb ⊢
 rw [if_pos h5]
 exact ⟨hv.1.trans h.vars, by show (aL r).2.events ++ _ = w.ev ++ _; rw [hv.2, h.ev], h.hold⟩
 rw [if_neg h5] at hb ⊢
 rw [if_neg h5] at hl ⊢
 by_cases h6 : s.kind = 6
 rw [if_pos h6] at hb ⊢
 rw [if_pos h6] at hl ⊢
 simp only [aR, Gs.flag, Gs.goal, Bool.or_eq_false_iff, Bool.not_eq_false'] at hb
 have e := lE (v := v) hok hb.1.2
 split at hl
 cases hl
 rename_i hn
 rw [if_neg hn]
 rw [hv.1] at hn
 refine ⟨hv.1.trans h.vars, hv.2.trans h.ev, ?_⟩
 show dg (w.facts ++ [(aD s.sum w.vars).1]) v = true
 rw [kj, h.hold, e, ← h.vars, Bool.true_and]
 exact decide_eq_true (by omega)
 rw [if_neg h6]
 rw [if_neg h6]
 exact ⟨hv.1.trans h.vars, hv.2.trans h.ev, h.hold⟩
theorem tL {la : cF} {s : Sm} {w : Pw} {g : Gs} (h3 : ¬ s.kind = 3) (hok : ∀ u ∈ w.vars, u.ok = true) : ∀ u ∈ (bo la s w g).1.vars, u.ok = true := by
 unfold bo
 split
 exact pD hok dN
 split
 exact hok
 split
 exact hok
 split
 exact hok
 exact hok
structure PsAt (frm : Int) (w : Pw) (ts : List Tr) (ps : List Pth) : Prop where
  all : ∀ p ∈ ps, p.frm = frm ∧ p.to = -1 ∧ p.ends.length = w.vars.length ∧ w.facts <+: p.facts
  run : ∀ (v : List Int) (r : RS), At v w r → (gA ts r).1 = true → ∃ i, i < ps.length ∧ (∀ j (hj : j < ps.length), dg ps[j].facts v = decide (j = i)) ∧
    ∀ (hi : i < ps.length), ps[i].ev = (gA ts r).2.events ∧ (ps[i].ends.map fun u => aT u v) = (gA ts r).2.vars
theorem jD {la : cF} {E : Pe} {frm : Int} : ∀ {n : Nat} {ts : List Tr} {w : Pw} {g : Gs}, az (ts.map .st) < n → cO ts = true → (∀ u ∈ w.vars, u.ok = true) → (dx la E frm n (ts.map .st) w g).bad = false →
    ∃ ps, (dx la E frm n (ts.map .st) w g).paths = g.paths ++ ps ∧ PsAt frm w ts ps
 | 0, ts, w, g, hn, hf, hok, hb => absurd hn (Nat.not_lt_zero _)
 | n + 1, ts, w, g, hn, hf, hok, hb => by
  have hgb : g.bad = false := by
   cases h : g.bad with
   | false => rfl
   | true => rw [bX h, h] at hb; cases hb
  match ts with
  | [] =>
   rw [List.map_nil] at hb ⊢
   rw [el hgb] at hb ⊢
   refine ⟨[⟨frm, -1, w.facts, w.vars, w.ev⟩], ?_, ⟨fun p hp => ?_, fun v r hA hr => ⟨0, by simp, fun j hj => ?_, fun hi => ⟨hA.ev.symm, hA.vars.symm⟩⟩⟩⟩
   unfold cV fL; rw [dG]
   rw [List.mem_singleton.1 hp]; exact ⟨rfl, rfl, rfl, List.prefix_refl _⟩
   obtain rfl : j = 0 := by simpa using hj
   exact hA.hold
  | .node s a [] :: ts =>
   rw [List.map_cons] at hb hn ⊢
   rw [dB hgb] at hb ⊢
   have hf' : (!decide (s.kind = 3)) = true ∧ cO ts = true := by simpa [cO, flat] using hf
   have h3 : ¬ s.kind = 3 := by simpa using hf'.1
   have hn' : az (ts.map .st) < n := by
    simp only [az, Fr.nodes] at hn
    have : 1 ≤ (Tr.node s a []).nodes := by simp [Tr.nodes]
    omega
   have hlb : (bo la s w g).2.bad = false := by
    cases h : (bo la s w g).2.bad with
    | false => rfl
    | true => rw [bX h, h] at hb; cases hb
   obtain ⟨ps, hp, hP⟩ := jD (n := n) (w := (bo la s w g).1) (g := (bo la s w g).2) hn' hf'.2 (tL h3 hok) hb
   refine ⟨ps, by rw [hp, lZ], ⟨fun p hm => ?_, fun v r hA hr => ?_⟩⟩
   obtain ⟨a1, a2, a3, a4⟩ := hP.all p hm
   refine ⟨a1, a2, a3.trans ?_, (tJ (List.prefix_refl _)).trans a4⟩
   unfold bo
   split
   simp [Pw.set]
   split
   rfl
   split
   rfl
   split <;> rfl
   obtain ⟨hl, he⟩ := ry hr
   rw [he] at hr ⊢
   exact hP.run v _ (uI h3 hok hlb hA hl) hr
  | .node s a [x, y] :: ts =>
   rw [List.map_cons] at hb hn ⊢
   have hf' : (flat x = true ∧ flat y = true) ∧ cO ts = true := by simpa [cO, flat] using hf
   have hnn : (Tr.node s a [x, y]).nodes = 1 + (x.nodes + y.nodes) := by simp [Tr.nodes, Trs.nodes]
   simp only [az, Fr.nodes] at hn
   by_cases hk : s.kind = 1
   rw [ej hgb hk] at hb ⊢
   obtain ⟨ps, hp, hP⟩ := jD (n := n) (ts := x :: y :: ts) (w := w) (g := g) (by simp only [List.map_cons, az, Fr.nodes]; omega) (by simp [cO, hf'.1.1, hf'.1.2]; simpa [cO] using hf'.2) hok hb
   exact ⟨ps, hp, hP.all, fun v r hA hr => by rw [tp hk] at hr ⊢; exact hP.run v r hA hr⟩
   rw [fX hgb hk] at hb ⊢
   unfold c8 at hb ⊢
   generalize hg1 : ((aR w s.sum g).flag (!(bu (aD s.sum w.vars).1).2)).flag (w.fact (aD s.sum w.vars).1).long = g1 at hb ⊢
   have hyb : (dx la E frm n (.st x :: ts.map .st) (w.fact (aD s.sum w.vars).1) g1).bad = false := by
    cases h : (dx la E frm n (.st x :: ts.map .st) (w.fact (aD s.sum w.vars).1) g1).bad with
    | false => rfl
    | true => rw [bX h, h] at hb; cases hb
   have hg1b : g1.bad = false := by
    cases h : g1.bad with
    | false => rfl
    | true => rw [bX h, h] at hyb; cases hyb
   have hg1p : g1.paths = g.paths := by rw [← hg1]; rfl
   rw [← hg1] at hg1b
   simp only [aR, Gs.flag, Bool.or_eq_false_iff, Bool.not_eq_false'] at hg1b
   obtain ⟨⟨⟨_, hs⟩, ho⟩, _⟩ := hg1b
   obtain ⟨ps, hp, hP⟩ := jD (n := n) (ts := x :: ts) (w := w.fact (aD s.sum w.vars).1) (g := g1) (by simp only [List.map_cons, az, Fr.nodes]; omega) (by simp [cO, hf'.1.1]; simpa [cO] using hf'.2) hok hyb
   obtain ⟨qs, hq, hQ⟩ := jD (n := n) (ts := y :: ts) (w := w.fact (bu (aD s.sum w.vars).1).1) (g := dx la E frm n (.st x :: ts.map .st) (w.fact (aD s.sum w.vars).1) g1) (by simp only [List.map_cons, az, Fr.nodes]; omega) (by simp [cO, hf'.1.2]; simpa [cO] using hf'.2) hok hb
   rw [List.map_cons] at hp hq
   refine ⟨ps ++ qs, by rw [hq, hp, hg1p, eQ], ⟨fun p hm => ?_, fun v r hA hr => ?_⟩⟩
   rcases List.mem_append.1 hm with h1 | h1
   obtain ⟨a1, a2, a3, a4⟩ := hP.all p h1
   exact ⟨a1, a2, a3, (List.prefix_append _ _).trans a4⟩
   obtain ⟨a1, a2, a3, a4⟩ := hQ.all p h1
   exact ⟨a1, a2, a3, (List.prefix_append _ _).trans a4⟩
   have e := lE (v := v) hok hs
   have eo := tC (v := v) dN ho
   rw [← hA.vars] at e
   have hS : ∀ t, 0 ≤ aT t v → At v (w.fact t) (aL r).2 := fun t ht => ⟨rn.1.trans hA.vars, rn.2.trans hA.ev, by
    show dg (w.facts ++ [t]) v = true
    rw [kj, hA.hold, decide_eq_true ht]; rfl⟩
   have hN : ∀ t, aT t v < 0 → dg (w.fact t).facts v = false := fun t ht => by
    show dg (w.facts ++ [t]) v = false
    rw [kj, decide_eq_false (by omega), Bool.and_false]
   have er := uz hk hr
   rw [er] at hr ⊢
   by_cases hc : 0 ≤ aT s.sum r.vars
   rw [if_pos hc] at hr ⊢
   obtain ⟨i, hi, hu, hv⟩ := hP.run v _ (hS _ (by omega)) hr
   refine ⟨i, by rw [de]; omega, fun j hj => ?_, fun hi2 => by rw [List.getElem_append_left hi]; exact hv hi⟩
   rw [de] at hj
   by_cases hjl : j < ps.length
   rw [List.getElem_append_left hjl]; exact hu j hjl
   rw [List.getElem_append_right (by omega), decide_eq_false (by omega)]
   exact oI (hQ.all _ (List.getElem_mem _)).2.2.2 (hN _ (by omega))
   rw [if_neg hc] at hr ⊢
   obtain ⟨i, hi, hu, hv⟩ := hQ.run v _ (hS _ (by omega)) hr
   refine ⟨ps.length + i, by rw [de]; omega, fun j hj => ?_, fun hi2 => by
    rw [List.getElem_append_right (by omega)]
    simp only [Nat.add_sub_cancel_left]; exact hv hi⟩
   rw [de] at hj
   by_cases hjl : j < ps.length
   rw [List.getElem_append_left hjl, decide_eq_false (by omega)]
   exact oI (hP.all _ (List.getElem_mem _)).2.2.2 (hN _ (by omega))
   rw [List.getElem_append_right (by omega), hu (j - ps.length) (by omega)]
   by_cases hji : j = ps.length + i
   rw [decide_eq_true hji, decide_eq_true (by omega)]
   rw [decide_eq_false hji, decide_eq_false (by omega)]
  | .node s a [x] :: ts => simp [cO, flat] at hf
  | .node s a (x :: y :: z :: ks) :: ts => simp [cO, flat] at hf
abbrev kx : Sm := ⟨0, 0, 0, z0, z0, []⟩
theorem nl : aW kx = true := by decide
def dy (v : Int) (c : Int) : Tm := ⟨c, List.replicate v.toNat 0 ++ [1]⟩
def pp (v : Int) (s : Src) : Sm × Src := if (s.pick 2).1 = 0 then (mo ((s.pick 2).2.pick 4).1, ((s.pick 2).2.pick 4).2) else (ud (gu (s.pick 2).2).1 (dy v 0), (gu (s.pick 2).2).2)
def iZ (s : Src) : List Sm × Src := ([dv (dy (s.pick 4).1 0) [dy (s.pick 4).1 1], jq, (pp (s.pick 4).1 (s.pick 4).2).1, mi (s.pick 4).1 (dy (s.pick 4).1 (-1))], (pp (s.pick 4).1 (s.pick 4).2).2)
def iY (deep : Bool) (s : Src) : Int × Src := if deep = true then (([1,1,1,7,8,2,5,4] : List Int).getD ((s.pick 7).2.pick 8).1.toNat default, ((s.pick 7).2.pick 8).2) else (([0,2,2,3,4,5,6] : List Int).getD (s.pick 7).1.toNat default, (s.pick 7).2)
def lq (k : Int) (s : Src) : Sm × Src :=
  if k = 2 then (mi (s.pick 4).1 (fd (s.pick 4).2).1, (fd (s.pick 4).2).2)
  else if k = 3 then (vO (s.pick 4).1 (gu (s.pick 4).2).1, (gu (s.pick 4).2).2)
  else if k = 4 then (ud (gu s).1 (fd (gu s).2).1, (fd (gu s).2).2)
  else if k = 5 then (mo (s.pick 4).1, (s.pick 4).2)
  else if k = 6 then (nA (fd s).1, (fd s).2)
  else if k = 7 then (xF (fd s).1, (fd s).2)
  else if k = 8 then (dv (fd s).1 (j1 (fd s).2).1, (j1 (fd s).2).2)
  else (⟨k, 0, 0, z0, z0, []⟩, s)
def nY (f : Src → List Sm × Src) (k : Int) (x : Sm × Src) : List Sm × Src :=
  if k = 1 ∨ k = 7 then ([x.1] ++ (f x.2).1 ++ (f (f x.2).2).1, (f (f x.2).2).2)
  else if k = 8 then (if ((f x.2).2.pick 2).1 = 0 then iZ ((f x.2).2.pick 2).2 else ([x.1] ++ (f x.2).1, ((f x.2).2.pick 2).2))
  else ([x.1], x.2)
def r9 (f : Src → List Sm × Src) (deep : Bool) (s : Src) : List Sm × Src := nY f (iY deep s).1 (lq (iY deep s).1 (iY deep s).2)
def pm : Nat → Src → List Sm × Src
  | 0, s => r9 (fun s => ([], s)) false s
  | d + 1, s => r9 (pm d) true s
def ew (x : Sm) : Sm := if x.kind = 3 then kx else x
def n5 (d : List Sm × Src) : List Sm := if (30 : Int) < d.1.length then [kx] else d.1
def ri (b : List Sm) (s : Src) : Pm := if b.any (fun x => decide (x.kind = 8)) = true then ⟨[], [xF (fd s).1, mi 1 (uk 2 0 1), kx], []⟩ else ⟨[], b.map ew, []⟩
def m9 (xs : List Int) : Pm := ri (n5 (pm 3 ⟨xs, 0, 0⟩)) (pm 3 ⟨xs, 0, 0⟩).2
theorem wm {v : Int} {s : Src} (h : s.Ok) : (pp v s).2.Ok := by
 unfold pp; split
 exact h.pick.pick
 exact j8 h.pick
theorem wn {v : Int} {s : Src} (h : s.Ok) : (pp v s).2.at_ ≤ s.at_ + 22 := by
 have h1 := bj (s := s) (n := 2)
 have h2 := bj (s := (s.pick 2).2) (n := 4)
 have h3 := lz (h.pick (n := 2))
 unfold pp; split <;> simp only <;> omega
theorem uM {s : Src} (h : s.Ok) : (iZ s).2.Ok := wm h.pick
theorem uN {s : Src} (h : s.Ok) : (iZ s).2.at_ ≤ s.at_ + 24 := by
 have h1 := bj (s := s) (n := 4)
 have h2 := wn (v := (s.pick 4).1) (h.pick (n := 4))
 show (pp _ _).2.at_ ≤ _
 omega
theorem i9 {d : Bool} {s : Src} (h : s.Ok) : (iY d s).2.Ok := by
 unfold iY; split
 exact h.pick.pick
 exact h.pick
theorem s6 {d : Bool} {s : Src} : (iY d s).2.at_ ≤ s.at_ + 4 := by
 have h1 := bj (s := s) (n := 7)
 have h2 := bj (s := (s.pick 7).2) (n := 8)
 unfold iY; split <;> simp only <;> omega
theorem nk {k : Int} {s : Src} (h : s.Ok) : (lq k s).2.Ok := by
 unfold lq
 split
 exact dU h.pick
 split
 exact j8 h.pick
 split
 exact dU (j8 h)
 split
 exact h.pick
 split
 exact dU h
 split
 exact dU h
 split
 exact uO (dU h)
 exact h
theorem s7 {k : Int} {s : Src} (h : s.Ok) : (lq k s).2.at_ ≤ s.at_ + 70 := by
 have h1 := bj (s := s) (n := 4)
 have h2 := gM (h.pick (n := 4))
 have h3 := lz (h.pick (n := 4))
 have h4 := lz h
 have h5 := gM (j8 h)
 have h6 := gM h
 have h7 := uP (dU h)
 unfold lq
 split
 simp only; omega
 split
 simp only; omega
 split
 simp only; omega
 split
 simp only; omega
 split
 simp only; omega
 split
 simp only; omega
 split
 simp only; omega
 simp only; omega
theorem xp {f : Src → List Sm × Src} (hf : ∀ s : Src, s.Ok → (f s).2.Ok) {k : Int} {x : Sm × Src} (h : x.2.Ok) : (nY f k x).2.Ok := by
 unfold nY
 split
 exact hf _ (hf _ h)
 split
 split
 exact uM (hf _ h).pick
 exact (hf _ h).pick
 exact h
theorem xr {f : Src → List Sm × Src} {n : Nat} (hf : ∀ s : Src, s.Ok → (f s).2.Ok ∧ (f s).2.at_ ≤ s.at_ + n) {k : Int} {x : Sm × Src} (h : x.2.Ok) : (nY f k x).2.at_ ≤ x.2.at_ + 2 * n + 30 := by
 have h1 := hf _ h
 have h2 := hf _ h1.1
 have h3 := bj (s := (f x.2).2) (n := 2)
 have h4 := uN (h1.1.pick (n := 2))
 unfold nY
 split
 simp only; omega
 split
 split
 omega
 simp only; omega
 show x.2.at_ ≤ _; omega
theorem s4 {f : Src → List Sm × Src} (hf : ∀ s : Src, s.Ok → (f s).2.Ok) {d : Bool} {s : Src} (h : s.Ok) : (r9 f d s).2.Ok := xp hf (nk (i9 h))
theorem j9 : ∀ {d : Nat} {s : Src}, s.Ok → (pm d s).2.Ok
 | 0, s, h => s4 (fun _ h => h) h
 | d + 1, s, h => s4 (fun _ h => j9 h) h
theorem s5 {f : Src → List Sm × Src} {n : Nat} (hf : ∀ s : Src, s.Ok → (f s).2.Ok ∧ (f s).2.at_ ≤ s.at_ + n) {d : Bool} {s : Src} (h : s.Ok) : (r9 f d s).2.at_ ≤ s.at_ + 2 * n + 110 := by
 have h1 := s6 (d := d) (s := s)
 have h2 := s7 (k := (iY d s).1) (i9 (d := d) h)
 have h3 := xr hf (k := (iY d s).1) (nk (k := (iY d s).1) (i9 (d := d) h))
 show (nY _ _ _).2.at_ ≤ _
 omega
def vc : Nat → Nat
  | 0 => 110
  | d + 1 => 2 * vc d + 110
theorem pL : ∀ {d : Nat} {s : Src}, s.Ok → (pm d s).2.at_ ≤ s.at_ + vc d
 | 0, s, h => by have := s5 (f := fun s => ([], s)) (n := 0) (fun s h => ⟨h, cN _⟩) (d := false) h; show (r9 _ _ _).2.at_ ≤ _; rw [vc]; omega
 | d + 1, s, h => by have := s5 (f := pm d) (n := vc d) (fun s h => ⟨j9 h, pL h⟩) (d := true) h; show (r9 _ _ _).2.at_ ≤ _; rw [vc]; omega
theorem xo {d : Nat} (h : d ≤ 3) : vc d ≤ 2000 := by
 have : ∀ d : Fin 4, vc d ≤ 2000 := by decide
 exact this ⟨d, by omega⟩
theorem lN {s : Src} (h : s.Ok) : (gu s).1.term = true := by
 have h1 := ch (h.pick (n := 2)) (n := 8) (by omega)
 have h2 := ch ((h.pick (n := 2)).pick (n := 2)) (n := 3) (by omega)
 unfold gu
 split
 exact yO (by omega)
 split
 exact yN (by omega) (.inl Z)
 exact eE h.pick.pick
theorem iy {v c : Int} (h : 0 ≤ v ∧ v < 4) (hc : -1000000 ≤ c ∧ c ≤ 1000000) : (dy v c).term = true := by
 refine nb (t := dy v 0) ?_ hc
 rcases (show v = 0 ∨ v = 1 ∨ v = 2 ∨ v = 3 by omega) with rfl | rfl | rfl | rfl <;> decide
def Ends (b : List Sm) : Prop := ∀ (rest : List Sm) (m : Int), 0 ≤ m → dc (b ++ rest) (m + 1) = (dc rest m).map (· + b.length)
theorem ko {s : Sm} {r : List Sm} {n : Int} (h : 0 < n) : dc (s :: r) n = (dc r (n + (aN s.kind - 1))).map (· + 1) := by
 rw [dc, if_neg (by omega)]
theorem Ends.leaf {x : Sm} (h : aN x.kind = 0) : Ends [x] := fun rest m hm => by
 rw [List.singleton_append, ko (by omega), h, show m + 1 + (0 - 1) = m by omega]; rfl
theorem Ends.one {x : Sm} {b : List Sm} (h : aN x.kind = 1) (hb : Ends b) : Ends ([x] ++ b) := fun rest m hm => by
 rw [eQ, List.singleton_append, ko (by omega), h, show m + 1 + (1 - 1) = m + 1 by omega, hb rest m hm, Option.map_map]
 exact congrArg (fun g => Option.map g _) (funext fun k => by simp only [Function.comp, de, gt]; omega)
theorem Ends.two {x : Sm} {b c : List Sm} (h : aN x.kind = 2) (hb : Ends b) (hc : Ends c) : Ends ([x] ++ b ++ c) := fun rest m hm => by
 rw [eQ, eQ, List.singleton_append, ko (by omega), h, show m + 1 + (2 - 1) = m + 1 + 1 by omega, hb _ _ (by omega), hc rest m hm, Option.map_map, Option.map_map]
 exact congrArg (fun g => Option.map g _) (funext fun k => by simp only [Function.comp, de, gt]; omega)
structure BdOk (b : List Sm) : Prop where
  st : ∀ x ∈ b, aW x = true
  ends : Ends b
  pos : 1 ≤ b.length
theorem jR {k : Int} (h1 : k ≠ 1) (h7 : k ≠ 7) (h8 : k ≠ 8) : aN k = 0 := by unfold aN; rw [if_neg h1, if_neg h7, if_neg h8]
theorem BdOk.leaf {x : Sm} (hx : aW x = true) (h : aN x.kind = 0) : BdOk [x] := ⟨fun y hy => by rw [List.mem_singleton.1 hy]; exact hx, .leaf h, by simp⟩
theorem BdOk.one {x : Sm} {b : List Sm} (hx : aW x = true) (h : aN x.kind = 1) (hb : BdOk b) : BdOk ([x] ++ b) := ⟨fun y hy => by
 rcases List.mem_append.1 hy with h1 | h1
 rw [List.mem_singleton.1 h1]; exact hx
 exact hb.st y h1, .one h hb.ends, by simp⟩
theorem BdOk.two {x : Sm} {b c : List Sm} (hx : aW x = true) (h : aN x.kind = 2) (hb : BdOk b) (hc : BdOk c) : BdOk ([x] ++ b ++ c) := ⟨fun y hy => by
 rcases List.mem_append.1 hy with h1 | h1
 rcases List.mem_append.1 h1 with h2 | h2
 rw [List.mem_singleton.1 h2]; exact hx
 exact hb.st y h2
 exact hc.st y h1, .two h hb.ends hc.ends, by simp⟩
theorem yP {v : Int} {s : Src} (hv : 0 ≤ v ∧ v < 4) (h : s.Ok) : aW (pp v s).1 = true ∧ aN (pp v s).1.kind = 0 := by
 have h4 := ch (h.pick (n := 2)) (n := 4) (by omega)
 unfold pp; split
 exact ⟨s8 (by omega), Z⟩
 exact ⟨vG (lN h.pick) (iy hv (by omega)), Z⟩
theorem wB {s : Src} (h : s.Ok) : BdOk (iZ s).1 := by
 have h4 := ch h (n := 4) (by omega)
 have hm := yP (v := (s.pick 4).1) h4 (h.pick (n := 4))
 unfold iZ
 exact BdOk.one (x := dv _ _) (b := [jq] ++ [_] ++ [_]) (q7 (iy h4 (by omega)) (om (fun t ht => by rw [List.mem_singleton.1 ht]; exact iy h4 (by omega)) (by simp))) Z
  (BdOk.two vE Z (.leaf hm.1 hm.2) (.leaf (sK (by omega) (iy h4 (by omega))) Z))
theorem vC {k : Int} {s : Src} (h : s.Ok) (hk : 0 ≤ k ∧ k ≤ 8) : aW (lq k s).1 = true ∧ (lq k s).1.kind = k := by
 have h4 := ch h (n := 4) (by omega)
 unfold lq
 split
 rename_i e; subst e; exact ⟨sK (by omega) (eE h.pick), rfl⟩
 split
 rename_i e; subst e; exact ⟨zq (by omega) (lN h.pick), rfl⟩
 split
 rename_i e; subst e; exact ⟨vG (lN h) (eE (j8 h)), rfl⟩
 split
 rename_i e; subst e; exact ⟨s8 (by omega), rfl⟩
 split
 rename_i e; subst e; exact ⟨t0 (eE h), rfl⟩
 split
 rename_i e; subst e; exact ⟨yk (eE h), rfl⟩
 split
 rename_i e; subst e; exact ⟨q7 (eE h) (qc (dU h)), rfl⟩
 refine ⟨?_, Z⟩
 rcases (show k = 0 ∨ k = 1 by omega) with rfl | rfl
 exact nl
 exact vE
theorem zo {f : Src → List Sm × Src} (hf : ∀ s : Src, s.Ok → BdOk (f s).1 ∧ (f s).2.Ok) {k : Int} {x : Sm × Src} (h : x.2.Ok) (hx : aW x.1 = true) (hk : x.1.kind = k) : BdOk (nY f k x).1 := by
 have h1 := hf _ h
 have h2 := hf _ h1.2
 unfold nY
 split
 rename_i e
 exact .two hx (by rw [hk]; rcases e with rfl | rfl <;> rfl) h1.1 h2.1
 rename_i e
 split
 rename_i e8
 split
 exact wB h1.2.pick
 exact .one hx (by rw [hk, e8]; rfl) h1.1
 rename_i e8
 exact .leaf hx (by rw [hk]; exact jR (fun e1 => e (.inl e1)) (fun e7 => e (.inr e7)) e8)
theorem x4 {xs : List Int} {P : Int → Prop} (h : ∀ x ∈ xs, P x) (h0 : P default) (i : Nat) : P (xs.getD i default) := by
 rcases Nat.lt_or_ge i xs.length with h1 | h1
 rw [aM h1]; exact h _ (List.getElem_mem h1)
 rw [List.getD_eq_getElem?_getD, List.getElem?_eq_none h1]; exact h0
theorem nj {d : Bool} {s : Src} : 0 ≤ (iY d s).1 ∧ (iY d s).1 ≤ 8 ∧ (d = false → (iY d s).1 ≠ 1 ∧ (iY d s).1 ≠ 7 ∧ (iY d s).1 ≠ 8) := by
 unfold iY
 split
 rename_i e; subst e
 have := x4 (P := fun x => 0 ≤ x ∧ x ≤ 8) (xs := [1,1,1,7,8,2,5,4]) (by decide) (by decide) ((s.pick 7).2.pick 8).1.toNat
 exact ⟨this.1, this.2, fun h => by cases h⟩
 have := x4 (P := fun x => 0 ≤ x ∧ x ≤ 8 ∧ x ≠ 1 ∧ x ≠ 7 ∧ x ≠ 8) (xs := [0,2,2,3,4,5,6]) (by decide) (by decide) (s.pick 7).1.toNat
 exact ⟨this.1, this.2.1, fun _ => this.2.2⟩
theorem vo : ∀ {d : Nat} {s : Src}, s.Ok → BdOk (pm d s).1
 | 0, s, h => by
  have hk := nj (d := false) (s := s)
  have hb := vC (k := (iY false s).1) (i9 (d := false) h) ⟨hk.1, hk.2.1⟩
  have h3 := hk.2.2 Z
  show BdOk (nY _ _ _).1
  unfold nY
  rw [if_neg (fun e => e.elim h3.1 h3.2.1), if_neg h3.2.2]
  exact .leaf hb.1 (by rw [hb.2]; exact jR h3.1 h3.2.1 h3.2.2)
 | d + 1, s, h => by
  have hk := nj (d := true) (s := s)
  have hb := vC (k := (iY true s).1) (i9 (d := true) h) ⟨hk.1, hk.2.1⟩
  exact zo (f := pm d) (fun s h => ⟨vo h, j9 h⟩) (nk (i9 h)) hb.1 hb.2
theorem wx {b : List Sm} (h : Ends b) : kW b 0 = b.length := by
 have := h [] 0 (Int.le_refl _)
 unfold kW
 rw [List.drop_zero]
 rw [List.append_nil, show (0 : Int) + 1 = 1 from Z, f8 (Int.le_refl _)] at this
 rw [this]; simp
theorem oO {f : Sm → Sm} (hf : ∀ x, aN (f x).kind = aN x.kind) : ∀ {b : List Sm} {n : Int}, dc (b.map f) n = dc b n
 | [], n => rfl
 | x :: b, n => by rw [List.map_cons, dc, dc, hf, oO hf]
theorem xw {x : Sm} : aN (ew x).kind = aN x.kind ∧ (ew x).kind ≠ 3 ∧ (x.kind ≠ 8 → (ew x).kind ≠ 8) := by
 unfold ew; split
 rename_i e; rw [e]; exact ⟨rfl, by decide, fun _ => by decide⟩
 rename_i e; exact ⟨rfl, e, id⟩
theorem xu {d : List Sm × Src} (h : BdOk d.1) : BdOk (n5 d) ∧ (n5 d).length ≤ 30 := by
 unfold n5; split
 exact ⟨.leaf nl Z, by simp⟩
 exact ⟨h, by omega⟩
theorem u4 {b : List Sm} {s : Src} (h : BdOk b) (hl : b.length ≤ 30) (hs : s.Ok) : iO (ri b s) = true ∧ (∀ x ∈ (ri b s).body, x.kind ≠ 3 ∧ x.kind ≠ 8) ∧ (ri b s).pre = [] ∧ (ri b s).post = [] := by
 unfold ri; split
 refine ⟨qS Z (fun x hx => ?_) ⟨by show 1 ≤ 3; decide, by show 3 ≤ 30; decide⟩ Z Z, fun x hx => ?_, Z, Z⟩
 simp only [List.mem_cons, List.not_mem_nil, or_false] at hx
 rcases hx with rfl | rfl | rfl
 exact yk (eE hs)
 exact sK (by decide) (xt (by decide))
 exact nl
 simp only [List.mem_cons, List.not_mem_nil, or_false] at hx
 rcases hx with rfl | rfl | rfl
 exact ⟨(by decide : (7 : Int) ≠ 3), (by decide : (7 : Int) ≠ 8)⟩
 exact ⟨(by decide : (2 : Int) ≠ 3), (by decide : (2 : Int) ≠ 8)⟩
 exact ⟨by decide, by decide⟩
 rename_i hn
 refine ⟨qS Z (fun x hx => ?_) ?_ ?_ Z, fun x hx => ?_, Z, Z⟩
 obtain ⟨y, hy, rfl⟩ := List.mem_map.1 hx
 unfold ew; split
 exact nl
 exact h.st y hy
 have := h.pos
 simp only [cw]; omega
 have := wx h.ends
 unfold kW at this ⊢
 simp only [List.drop_zero, cw] at this ⊢
 rw [oO (fun x => xw.1)]; exact this
 obtain ⟨y, hy, rfl⟩ := List.mem_map.1 hx
 refine ⟨xw.2.1, xw.2.2 fun e8 => hn ?_⟩
 exact List.any_eq_true.2 ⟨y, hy, decide_eq_true e8⟩
theorem u5 {xs : List Int} (h : ∀ n ∈ xs, 0 ≤ n ∧ n ≤ 255) : iO (m9 xs) = true ∧ (∀ x ∈ (m9 xs).body, x.kind ≠ 3 ∧ x.kind ≠ 8) ∧ (m9 xs).pre = [] ∧ (m9 xs).post = [] := by
 have h0 : (⟨xs, 0, 0⟩ : Src).Ok := ⟨h⟩
 have h1 := xu (d := pm 3 ⟨xs, 0, 0⟩) (vo h0)
 exact u4 h1.1 h1.2 (j9 h0)
theorem iD {b : List Sm} (hb : ∀ j, j < b.length → (b.getD j default).kind ≠ 3 ∧ (b.getD j default).kind ≠ 8) : ∀ {t : Tr} {k k' : Nat}, bR b k = some (t, k') → flat t = true
 | .node s a [x, y], k, k', h => by
  obtain ⟨e1, rfl, e3, e4, e5⟩ := bI h
  obtain ⟨k1, i1, i2⟩ := bJ e4
  obtain ⟨k2, i3, i4⟩ := bJ i2
  rw [flat, iD hb i1, iD hb i3]; rfl
 | .node s a [x], k, k', h => by
  obtain ⟨e1, rfl, e3, e4, e5⟩ := bI h
  exact absurd (f9 e5.symm) (hb k e1).2
 | .node s a [], k, k', h => by
  obtain ⟨e1, rfl, e3, e4, e5⟩ := bI h
  rw [flat, decide_eq_false (hb k e1).1]; rfl
 | .node s a (x :: y :: z :: ks), k, k', h => by
  obtain ⟨e1, rfl, e3, e4, e5⟩ := bI h
  have h2 := (b0 (b.getD k default).kind).2
  simp only [iX] at e5
  omega
theorem kh {b : List Sm} (hb : ∀ j, j < b.length → (b.getD j default).kind ≠ 8) : ∀ {k : Nat}, k ≤ b.length → ba b k = 0
 | 0, h => rfl
 | k + 1, h => by rw [ba, if_neg (hb k (by omega)), kh hb (k := k) (by omega)]
theorem tR {p : Pm} {t : Tr} (ht : PtOk p t) (hb : ∀ x ∈ p.body, x.kind ≠ 3 ∧ x.kind ≠ 8) (hpre : p.pre = []) (hgood : (ii p t (ba p.body p.body.length + 1)).bad = false) :
    PsAt (-1) (w0 []) [t] (ii p t (ba p.body p.body.length + 1)).paths := by
 have hb' : ∀ j, j < p.body.length → (p.body.getD j default).kind ≠ 3 ∧ (p.body.getD j default).kind ≠ 8 := fun j hj => by
  rw [aM hj]; exact hb _ (List.getElem_mem hj)
 rw [kh (fun j hj => (hb' j hj).2) (cN _)] at hgood ⊢
 rw [ii, jm, cg, hpre] at hgood ⊢
 have hn := ht.nodes
 obtain ⟨ps, h1, h2⟩ := jD (la := bV) (E := pj p.body p.post) (frm := -1) (n := 31) (ts := [t]) (w := w0 []) (g := ii p t 0) (by simp only [List.map_cons, List.map_nil, az, Fr.nodes]; omega) (by simp [cO, iD hb' ht.tree]) (by decide) hgood
 rw [show (ii p t 0).paths = [] from Z, List.nil_append] at h1
 rw [List.map_cons, List.map_nil] at h1
 rw [h1]; exact h2
theorem oh : ∀ {n : Nat} {xs : List Int}, xs.length = n → (∀ k, 4 ≤ k → xs.getD k 0 = 0) → (df xs).length ≤ 4
 | 0, xs, h, _ => by
  obtain rfl := List.length_eq_zero_iff.1 h
  exact dF _
 | n + 1, xs, h, hz => by
  have hne : xs ≠ [] := by intro e; rw [e] at h; cases h
  rcases Nat.lt_or_ge n 4 with h4 | h4
  have := kC xs; omega
  have e := (List.dropLast_concat_getLast hne).symm
  have h0 : xs.getLast hne = 0 := by
   have := hz n h4
   rw [List.getLast_eq_getElem]
   rw [List.getD_eq_getElem?_getD, List.getElem?_eq_getElem (show n < xs.length by omega), Option.getD_some] at this
   simp only [h, Nat.add_sub_cancel]; exact this
  rw [h0] at e
  rw [e, kd]
  refine oh (n := n) (by rw [List.length_dropLast]; omega) fun k hk => ?_
  have := hz k hk
  rw [List.getD_eq_getElem?_getD] at this ⊢
  rcases Nat.lt_or_ge k xs.dropLast.length with h5 | h5
  rw [List.getElem?_eq_getElem h5, List.getElem_dropLast]
  have h6 : k < xs.length := by rw [List.length_dropLast] at h5; omega
  rw [List.getElem?_eq_getElem h6] at this; exact this
  rw [List.getElem?_eq_none h5]; rfl
theorem oC {c : Int} {xs : List Int} (h : ∀ k, 4 ≤ k → xs.getD k 0 = 0) : (me c xs).1.term = true := by
 unfold me
 split
 rename_i h1
 unfold Tm.term
 rw [h1, Bool.true_and]
 have := oh Z h
 exact decide_eq_true (by show ((df xs).length : Int) ≤ 4; omega)
 rfl
theorem kL {t : Tm} (h : t.term = true) : t.xs.length ≤ 4 := by
 unfold Tm.term at h
 rw [bM] at h
 have := bz h.2; omega
theorem mS {f : Tm → Int} : ∀ {ts : List Tm} {ms : List Int}, (∀ t ∈ ts, f t = 0) → bS f ts ms = 0
 | [], ms, h => by simp [bS]
 | t :: ts, [], h => by simp [bS]
 | t :: ts, m :: ms, h => by
  simp only [bS]
  rw [h t (by simp), mS (fun u hu => h u (by simp [hu]))]; omega
theorem lK {xs : List Int} {k : Nat} (h : xs.length ≤ k) : xs.getD k 0 = 0 := by
 rw [List.getD_eq_getElem?_getD, List.getElem?_eq_none h]; rfl
theorem mH {g : Nat → Int} {k : Nat} (h : g k = 0) : ((List.range 10).map g).getD k 0 = 0 := by
 rw [List.getD_eq_getElem?_getD, List.getElem?_map]
 rcases Nat.lt_or_ge k 10 with h1 | h1
 rw [List.getElem?_range h1]; exact h
 rw [List.getElem?_eq_none (by rw [List.length_range]; exact h1)]; rfl
theorem jJ {t : Tm} {vs : List Tm} (h : ∀ u ∈ vs, u.term = true) : (aD t vs).1.term = true :=
  oC fun k hk => mH (mS fun u hu => lK (Nat.le_trans (kL (h u hu)) hk))
theorem tA {t : Tm} (h : t.term = true) : (bu t).1.term = true :=
  oC fun k hk => mH (by
    rw [lK (Nat.le_trans (kL h) hk), lK (dF _)]; rfl)
structure TmW (w : Pw) : Prop where
  vars : ∀ u ∈ w.vars, u.term = true
  facts : ∀ u ∈ w.facts, u.term = true
def TmG (g : Gs) : Prop := ∀ q ∈ g.paths, (∀ u ∈ q.facts, u.term = true) ∧ (∀ u ∈ q.ends, u.term = true)
theorem TmG.paths {g h : Gs} (hg : TmG g) (e : h.paths = g.paths) : TmG h := fun q hq => hg q (by rw [← e]; exact hq)
theorem TmW.fact {w : Pw} (h : TmW w) {t : Tm} (ht : t.term = true) : TmW (w.fact t) := ⟨h.vars, fun u hu => by
 rcases List.mem_append.1 hu with h1 | h1
 exact h.facts u h1
 rw [List.mem_singleton.1 h1]; exact ht⟩
theorem TmW.leaf {la : cF} {s : Sm} {w : Pw} {g : Gs} (h3 : ¬ s.kind = 3) (h : TmW w) : TmW (bo la s w g).1 := by
 unfold bo
 split
 exact ⟨fun u hu => by
  rcases List.mem_or_eq_of_mem_set hu with h1 | h1
  · exact h.vars u h1
  · rw [h1]; exact jJ h.vars, h.facts⟩
 split
 exact h
 split
 exact ⟨h.vars, h.facts⟩
 split
 exact h.fact (jJ h.vars)
 exact h
theorem gP {la : cF} {E : Pe} {frm : Int} : ∀ {n : Nat} {ts : List Tr} {w : Pw} {g : Gs}, cO ts = true → TmW w → TmG g → TmG (dx la E frm n (ts.map .st) w g)
 | 0, ts, w, g, hf, hw, hg => hg
 | n + 1, ts, w, g, hf, hw, hg => by
  cases hb : g.bad with
  | true => rw [bX hb]; exact hg
  | false =>
   match ts with
   | [] =>
    rw [List.map_nil, el hb]
    intro q hq
    unfold cV fL at hq
    rw [dG] at hq
    rcases List.mem_append.1 hq with h1 | h1
    exact hg q h1
    rw [List.mem_singleton.1 h1]; exact ⟨hw.facts, hw.vars⟩
   | .node s a [] :: ts =>
    rw [List.map_cons, dB hb]
    have hf' : (!decide (s.kind = 3)) = true ∧ cO ts = true := by simpa [cO, flat] using hf
    exact gP hf'.2 (hw.leaf (by simpa using hf'.1)) (hg.paths lZ)
   | .node s a [x, y] :: ts =>
    have hf' : (flat x = true ∧ flat y = true) ∧ cO ts = true := by simpa [cO, flat] using hf
    rw [List.map_cons]
    by_cases hk : s.kind = 1
    rw [ej hb hk]
    exact gP (ts := x :: y :: ts) (by simp [cO, hf'.1.1, hf'.1.2]; simpa [cO] using hf'.2) hw hg
    rw [fX hb hk]
    unfold c8
    have h1 := gP (la := la) (E := E) (frm := frm) (n := n) (ts := x :: ts) (w := w.fact (aD s.sum w.vars).1) (g := ((aR w s.sum g).flag (!(bu (aD s.sum w.vars).1).2)).flag (w.fact (aD s.sum w.vars).1).long)
     (by simp [cO, hf'.1.1]; simpa [cO] using hf'.2) (hw.fact (jJ hw.vars)) (hg.paths Z)
    rw [List.map_cons] at h1
    exact gP (ts := y :: ts) (by simp [cO, hf'.1.2]; simpa [cO] using hf'.2) (hw.fact (tA (jJ hw.vars))) h1
   | .node s a [x] :: ts => simp [cO, flat] at hf
   | .node s a (x :: y :: z :: ks) :: ts => simp [cO, flat] at hf
theorem tK {s : Sm} {r : RS} (h : (leaf s r).1 = false) : (leaf s r).2.out ≠ 0 := by
 unfold leaf at h ⊢
 by_cases h2 : s.kind = 2
 rw [if_pos h2] at h ⊢
 split at h
 cases h
 rename_i hn; rw [if_neg hn]; exact (by decide : (4 : Int) ≠ 0)
 rw [if_neg h2] at h ⊢
 by_cases h3 : s.kind = 3
 rw [if_pos h3] at h ⊢
 split at h
 cases h
 rename_i hn; rw [if_neg hn]; exact (by decide : (2 : Int) ≠ 0)
 rw [if_neg h3] at h ⊢
 by_cases h4 : s.kind = 4
 rw [if_pos h4] at h ⊢
 split at h
 rename_i hi
 rw [if_pos hi]
 split at h
 cases h
 rename_i hn; rw [if_neg hn]; exact (by decide : (4 : Int) ≠ 0)
 rename_i hn; rw [if_neg hn]; exact (by decide : (2 : Int) ≠ 0)
 rw [if_neg h4] at h ⊢
 by_cases h5 : s.kind = 5
 rw [if_pos h5] at h; cases h
 rw [if_neg h5] at h ⊢
 by_cases h6 : s.kind = 6
 rw [if_pos h6] at h ⊢
 split at h
 rename_i hn; rw [if_pos hn]; exact (by decide : (3 : Int) ≠ 0)
 cases h
 rw [if_neg h6] at h
 cases h
theorem ou {r : RS} (h : ¬ (aL r).1 = true) : (aL r).2.out ≠ 0 := by
 unfold aL at h ⊢
 split
 exact (by decide : (1 : Int) ≠ 0)
 rename_i hn; rw [if_neg hn] at h; exact absurd Z h
theorem jz : ∀ {t : Tr} {r : RS}, flat t = true → (aU t r).1 = false → (aU t r).2.out ≠ 0
 | .node s a [x, y], r, hf, h => by
  rw [flat, bM] at hf
  rw [dR] at h ⊢
  by_cases hk : s.kind = 1
  rw [if_pos hk] at h ⊢
  by_cases hx : (aU x r).1 = true
  rw [if_pos hx] at h ⊢; exact jz hf.2 h
  rw [if_neg hx]; exact jz hf.1 (Bool.not_eq_true _ ▸ hx)
  rw [if_neg hk] at h ⊢
  by_cases hs : (aL r).1 = true
  rw [if_pos hs] at h ⊢
  split at h
  rename_i hc; rw [if_pos hc]; exact jz hf.1 h
  rename_i hc; rw [if_neg hc]; exact jz hf.2 h
  rw [if_neg hs]; exact ou hs
 | .node s a [], r, hf, h => by
  rw [bT] at h ⊢
  by_cases hs : (aL r).1 = true
  rw [if_pos hs] at h ⊢; exact tK h
  rw [if_neg hs]; exact ou hs
 | .node s a [x], r, hf, h => by simp [flat] at hf
 | .node s a (x :: y :: z :: ks), r, hf, h => by simp [flat] at hf
structure PaW (P : List Pth) (i0 : Nat) (v0 ev vs : List Int) : Prop where
  frm : ∀ r ∈ P, r.frm = -1 ∧ r.to = -1 ∧ r.ends.length = 4
  facts : ∀ r ∈ P, ∀ t ∈ r.facts, t.term = true
  ends : ∀ r ∈ P, ∀ t ∈ r.ends, t.term = true
  lt : i0 < P.length
  hold : ∀ j, j < P.length → dg (P.getD j default).facts v0 = decide (j = i0)
  ev : (P.getD i0 default).ev = ev
  vs : ((P.getD i0 default).ends.map fun u => aT u v0) = vs
theorem Ag {xs : List Int} (h : xs.length = 4) : ∃ a b c d, xs = [a, b, c, d] := by
 match xs, h with
 | [a, b, c, d], _ => exact ⟨a, b, c, d, Z⟩
theorem yo {s : Sx} {f : Int} (h : s.vars.length = 4) : At s.vars (w0 []) (r0 s f) := by
 refine ⟨?_, Z, Z⟩
 show s.vars = _
 obtain ⟨a, b, c, d, e⟩ := Ag h
 rw [e]
 show [a, b, c, d] = [aT (gz 0) [a, b, c, d], aT (gz 1) [a, b, c, d], aT (gz 2) [a, b, c, d], aT (gz 3) [a, b, c, d]]
 simp [aT, gz, dS, List.replicate]
theorem Af {p : Pm} {t : Tr} (ht : PtOk p t) (hb : ∀ x ∈ p.body, x.kind ≠ 3 ∧ x.kind ≠ 8) (hpre : p.pre = []) (hgood : (ii p t (ba p.body p.body.length + 1)).bad = false) {s : Sx} {f : Int} (hs : s.vars.length = 4)
    (ho : (aU t (r0 s f)).2.out = 0) : ∃ i0, PaW (ii p t (ba p.body p.body.length + 1)).paths i0 s.vars (aU t (r0 s f)).2.events (aU t (r0 s f)).2.vars := by
 have hb' : ∀ j, j < p.body.length → (p.body.getD j default).kind ≠ 3 ∧ (p.body.getD j default).kind ≠ 8 := fun j hj => by
  rw [aM hj]; exact hb _ (List.getElem_mem hj)
 have hft := iD hb' ht.tree
 have hP := tR ht hb hpre hgood
 have hr : (aU t (r0 s f)).1 = true := by
  cases h : (aU t (r0 s f)).1 with
  | true => rfl
  | false => exact absurd ho (jz hft h)
 have hF : gA [t] (r0 s f) = (true, (aU t (r0 s f)).2) := by
  simp only [gA]; rw [if_pos hr]
 have hT : TmG (ii p t (ba p.body p.body.length + 1)) := by
  rw [kh (fun j hj => (hb' j hj).2) (cN _), ii, jm, cg, hpre]
  exact gP (ts := [t]) (by simp [cO, hft]) ⟨by decide, fun u hu => by cases hu⟩ (fun q hq => by cases hq)
 obtain ⟨i, hi, hu, hv⟩ := hP.run s.vars (r0 s f) (yo hs) (by rw [hF])
 refine ⟨i, fun r h => ?_, fun r h => (hT r h).1, fun r h => (hT r h).2, hi, fun j hj => ?_, ?_, ?_⟩
 obtain ⟨a1, a2, a3, _⟩ := hP.all r h
 exact ⟨a1, a2, a3⟩
 rw [aM hj]; exact hu j hj
 have := (hv hi).1
 rw [hF] at this
 rw [aM hi]; exact this
 have := (hv hi).2
 rw [hF] at this
 rw [aM hi]; exact this
end Go.Al
