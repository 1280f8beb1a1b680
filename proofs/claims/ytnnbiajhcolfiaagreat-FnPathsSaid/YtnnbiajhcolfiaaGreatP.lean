/- The program: goals, facts, ends of paths, copies. -/
import Derived.Test.YtnnbiajhcolfiaaGreatH
import Derived.Test.YtnnbiajhcolfiaaGreatM
import Derived.Test.YtnnbiajhcolfiaaGreatC
set_option linter.unusedVariables false
set_option linter.unusedSimpArgs false
set_option maxRecDepth 10000
set_option maxHeartbeats 4000000
open Go.Proofs
namespace Go.Al
variable {L : Nat} (h1 : 4096 ≤ L) (h2 : L ≤ 1073741824)
variable {t : Tm}
theorem wT : MQ h1 h2 158 [cT t] [] (Rows (.tup [.agg [.d (.int .i64 (lv t).1.c), .rs 0 0 (lv t).1.xs.length], eB (lv t).2]) [aA (lv t).1.xs]) := by
 refine db (jB 10 h1 h2 Tryz.func158 Z Z Z fun O hF => ?_)
 refine ag (jx O Z (ap ?_))
 refine jf [1] Z (jl O Z (ap ?_))
 refine js O Z (jn (ah (ag (js O Z (aB O Z Z Z Z (pu (t := t) h1 h2) (af Z) Z Z Z Z Z (B0 := 6000) Z (js O Z (jf [6,3,2,1] Z (jn (ae O Z Z (fun hc6 => ?_) (fun hc6 => ?_))))))))))
 refine ag (js O Z (jf [7,3,2,1] Z (jo O Z (ap ?_))))
 refine js O Z (jr ?_)
 have hok : t.ok = false := by simpa using hc6
 rw [show lv t = (⟨0, []⟩, false) from if_neg (by rw [hok]; decide)]
 refine ⟨.inl Z, _, cK 2 900 1 true 1 Z Z Z, _, Z, [900], by decide, Z, Z, Z⟩
 refine ak (ag (js O Z (jf [8,3,2,1] Z (c7 O (B0 := 10000) Z Z Z Z (qF (t := t) h1 h2) (af Z) Z Z Z Z Z Z (ap ?_)))))
 refine jf [9,3,2,1] Z (jo O Z (ap ?_))
 refine js O Z (jr ?_)
 have hok : t.ok = true := by simpa using hc6
 rw [show lv t = (t, true) from if_pos hok]
 refine ⟨.inl Z, _, av, _, Z, [10000], by decide, Z, Z, Z⟩
theorem wU {vs : List Tm} (ht : t.ok = true) (hv : gI vs 10 = true) (hle : t.xs.length ≤ vs.length) : MQ h1 h2 122 [cT t, cW vs] [] (Rows (.tup [.agg [.d (.int .i64 (aD t vs).1.c), .rs 0 0 (aD t vs).1.xs.length], eB (aD t vs).2]) [aA (aD t vs).1.xs]) := by
 refine db (jB 64 h1 h2 Tryz.func122 Z Z Z fun O hF => ?_)
 have htl := pE ht
 refine ag (jx O Z (ap ?_))
 refine jf [2,1] Z (jl O Z (ap ?_))
 refine js O Z (jn (ah (ag (js O Z (aB O Z Z Z Z (pu (t := t) h1 h2) (af Z) Z Z Z Z Z (B0 := 13000) Z (j2 O Z Z (jf [14,5,4,2,1] Z (aw 3 Z Z Z (fun hx => ab hx Z Z Z (V O Z) Z Z ( bG O hx Z Z Z Z (Aq (ts := vs) (n := 10) h1 h2) (af Z) Z Z Z Z Z Z Z (B0 := 17000) Z ( ab hx Z Z Z (V O Z) Z Z ( AN.nil)))) Z Z (aa (bi O Z Z Z Z Z) Z Z Z (jf [18,5,4,2,1] Z (jn (ae O Z Z (fun hc18 => ?_) (fun hc18 => ?_)))))))))))))
 exact absurd hc18 (by rw [hv, ht]; decide)
 refine ak (ag (j3 O Z Z Z (jf [22,5,4,2,1] Z (AOps.heap (bA O Z Z Z Z Z Z Z Z Z Z Z) Z (ap ?_)))))
 refine au (Ent.rowLe 23 Z (.cons (.cons .refl (.cons (.nil (sz := 1)) .nil)) .nil)) (ap ?_)
 refine ap ?_
 refine jf [23,5,4,2,1] Z (AOps.heap (bB O Z Z Z) Z (ap ?_))
 refine j2 O Z Z (jf [7,6,5,4,2,1] Z (jn (ah (ag (j2 O Z Z (eK O Z (js O Z (jn (aq (aH (X := Nat) (fun i => ⟨[(1, cW vs), (2, .c (.pt 2 0 0)), (4, .c (.pt 4 0 0)), (6, .c (.rs 906 0 (i + 1))), (7, .c (.rs 907 0 (i + 1))), (26, cz t.xs), (27, eI t.xs.length), (28, eI i)], [(2, .box [.d (.int .i64 t.c), .d (cG t.xs)]), (4, .box [.d (.int .i64 0), .d .nils]), (906, .row false 2 ((⟨t.c, []⟩ :: vs.take i).map Tm.cells)), (907, aA (1 :: t.xs.take i))]⟩) (fun i => i ≤ t.xs.length) (fun i => t.xs.length - i) 0 ((((am [2,4,23,24] (e' := [(1, _), (2, _), (4, _), (6, _), (7, _), (26, _), (27, _), (28, _)]) Z Z ⟨Z, Z, Z, Z, Z, Z, Z, Z, trivial⟩ Z).trans (ac 23 906 Z Z)).trans (ac 24 907 Z Z)).trans (Ent.to ⟨Z, Z, Z, Z, Z, Z, Z, Z, trivial⟩ Z)) ?_ (fun i hi => ?_)))))))))))
 exact dF _
 refine ag (js O Z (jn (ah (ae O Z Z (fun hc29 => ?_) (fun hc29 => ?_)))))
 refine ak (ah (aq (ag (js O Z (r6 O Z Z (j3 O Z Z Z (jf [9,8,29,1,2,4,6,7,26,27,28] Z (bn ?_))))))))
 have hil : i < t.xs.length := by have := bz hc29; omega
 have hvl : vs.length ≤ 10 := by have := (pQ hv).2; omega
 refine js O Z (ji O Z (jf [34,9,8,29,1,2,4,6,7,26,27,28] Z (AOps.heap (ep O Z Z Z Z Z Z Z Z Z (by first | omega | (simp at *; omega)) (by first | omega | (simp at *; omega)) (by first | omega | (simp at *; omega)) (by first | omega | (dsimp only; omega) | (simp only [cf] at *; omega)) (by first | omega | (simp at *; omega)) Z Z Z) Z (ap ?_))))
 refine js O Z (jf [36,9,8,29,1,2,4,6,7,26,27,28] Z (jl O Z (ap ?_)))
 refine jo O Z (ap ?_)
 refine bn (j3 O Z Z Z (fI O Z Z (jf [40,10,36,9,8,29,1,2,4,6,7,26,27,28] Z (AOps.heap (cv (ex := [.int .i64 0]) (xs' := ((List.replicate i 0 ++ [1] : List Int)).map (fun n => [D.int .i64 n])) O Z Z Z Z Z Z Z Z Z Z Z Z Z Z lg ld) Z (ap ?_)))))
 refine jn (ah (ag (j2 O Z Z (eK O Z (js O Z (jf [44,40,10,36,9,8,29,1,2,4,6,7,26,27,28] Z (jn (ae O Z Z (fun hc44 => ?_) (fun hc44 => ?_)))))))))
 refine an (j2 O Z Z (r6 O Z Z (js O Z (jf [48,44,40,10,36,9,8,29,1,2,4,6,7,26,27,28] Z (jo O Z (ap ?_))))))
 refine jn (an (j2 O Z Z (AOps.heap (bA O Z Z Z Z Z Z Z Z Z Z Z) Z (ap ?_))))
 refine jf [51,49,48,44,40,10,36,9,8,29,1,2,4,6,7,26,27,28] Z (AOps.heap (bk (own := false) (xs := ((⟨t.c, []⟩ : Tm) :: vs.take i).map Tm.cells) (ys := [Tm.cells (vs.getD i default)]) (zs := ((⟨t.c, []⟩ : Tm) :: vs.take (i + 1)).map Tm.cells) (n := i + 2) O Z Z Z Z Z Z Z Z Z Z Z Z Z Z Z Z (.row Z (by simp; omega)) (.whole Z Z (.inr ⟨Z, Z⟩)) (by simp) Z (by simp; omega) (by simp; omega) (by rw [List.take_succ_eq_append_getElem (by omega), ← List.cons_append, List.map_append, aM (by omega)]; rfl) (by simp; omega)) Z (ap ?_))
 refine au (am [2,4,52,907] (e' := [(52, _), (9, _), (7, _), (1, _), (2, _), (4, _), (26, _), (27, _), (28, _)]) Z Z ⟨Z, Z, Z, Z, Z, Z, Z, Z, Z, trivial⟩ Z) (ap ?_)
 refine j2 O Z Z (jf [54,53,52,7,1,2,4,26,27,28] Z (AOps.heap (bB O Z Z Z) Z (ap ?_)))
 refine jf [55,53,52,7,1,2,4,26,27,28] Z (AOps.heap (cZ (zs := (1 :: t.xs.take (i + 1)).map fun n => [.int .i64 n]) (n := i + 2) O Z Z Z Z Z Z Z Z Z Z Z Z Z Z Z Z (.row Z (by simp; omega)) Z Z (by decide) Z (by simp; omega) (by simp; omega) (by rw [show t.xs.take (i + 1) = t.xs.take i ++ [t.xs.getD i default] by rw [List.take_succ_eq_append_getElem (by omega), aM (by omega)], ← List.cons_append, List.map_append]; rfl) (by simp; omega)) Z (ap ?_))
 refine j2 O Z Z (jf [7,6,1,2,4,26,27,28] Z (jn (an (ji O Z (js O Z (jn ?_))))))
 refine ⟨i + 1, (((am [2,4,52,56] (e' := [(1, _), (2, _), (4, _), (6, _), (7, _), (26, _), (27, _), (28, _)]) Z Z ⟨Z, Z, Z, Z, Z, Z, Z, Z, trivial⟩ Z).trans (ac 52 906 Z Z)).trans (ac 56 907 Z Z)), by omega, by omega⟩
 exact absurd hc44 (by simp; omega)
 refine bH (ag ?_)
 have hvl : vs.length ≤ 10 := by have := (pQ hv).2; omega
 obtain rfl : i = t.xs.length := by have := cp hc29; omega
 rw [List.take_length]
 refine au (Ent.freeze 906 (e' := [(6, _), (7, _), (4, _), (2, _)]) Z (.cons Z (.c (.row Z (by simp; omega))) (fe [7,4,2] Z)) (.cons Z (.box (fk Z)) (.cons Z (.box (fk Z)) (.skip (.cons Z .row .nil))))) ?_
 refine au (Ent.freeze 907 (e' := [(6, _), (7, _), (4, _), (2, _)]) Z (.cons Z (.keep Z) (.cons Z (.c (.row Z (by simp))) (fe [4,2] Z))) (.cons Z (.box (fk Z)) (.cons Z (.box (fk Z)) (.skip .nil)))) ?_
 refine j2 O Z Z (ay O Z Z Z Z (vU (ts := ⟨t.c, []⟩ :: vs.take t.xs.length) (ms := 1 :: t.xs) h1 h2 (uw ht hv) (by have := (Small.of ht).xs; rw [List.all_cons, this]; decide) (by simp; omega)) (af Z) Z Z Z Z (B0 := 61000) Z Z (jf [60,6,7,4,2] Z (c7 O (B0 := 62000) Z Z Z Z (wT (t := iP (⟨t.c, []⟩ :: vs.take t.xs.length) (1 :: t.xs)) h1 h2) (af Z) Z Z Z Z Z Z (ap ?_))))
 refine j2 O Z Z (jf [63,62,6,7,4,2] Z (jo O Z (ap ?_)))
 refine js O Z (jf [5,6,7,4,2] Z (jr ?_))
 rw [← tk]
 refine ⟨.inl Z, _, av, _, Z, [62000], by decide, Z, Z, Z⟩
structure Pc where
  post : D
  starts : D
  body : D
  loops : D
  behind : D
  num : List (Int × D)
abbrev aJ (ps : List Pth) : B := .row true 5 (ps.map Pth.cells)
abbrev aK (ss : List Sq) : B := .row true 3 (ss.map Sq.cells)
abbrev iB (c : Pc) (g : Gs) (i j k : Nat) : B := .box [.d c.post, .d c.starts, .rs i 0 g.paths.length, .rs j 0 g.conds.length, .d (.bool g.bad), .d c.body, .d c.loops, .d c.behind, .mp k]
abbrev iW (frm : Int) (w : Pw) (i j k : Nat) : B := .box [.d (.int .i64 frm), .rs i 0 w.vars.length, .d .nils, .rs j 0 w.facts.length, .rs k 0 w.ev.length, .d (.int .i64 (w.sym : Int))]
abbrev iH (c : Pc) (g : Gs) (frm : Int) (w : Pw) : List (Nat × B) := [(0, iB c g 1 2 3), (1, aJ g.paths), (2, aK g.conds), (3, aX c.num), (4, iW frm w 5 6 7), (5, aE w.vars), (6, aE w.facts), (7, aA w.ev)]

variable {c : Pc} {g : Gs}
theorem zb {k : Int} {xs : List Int} {ok : Bool} : MQ h1 h2 119 [.c (.pt 0 0 0), (.agg [.d (.int .i64 k), .rs 4 0 xs.length]), eB ok] [(0, iB c g 1 2 3), (1, aJ g.paths), (2, aK g.conds), (3, aX c.num), (4, aA xs)] (aS (.agg [.d (.int .i64 k), .rs 4 0 xs.length]) [(0, iB c (g.flag (!ok)) 1 2 3), (1, aJ (g.flag (!ok)).paths), (2, aK (g.flag (!ok)).conds), (3, aX c.num), (4, aA xs)]) := by
 refine MC.shift 500 Z (MC.keep [500,501,502,503,504] (bs := [iB c (g.flag (!ok)) 501 502 503, aJ (g.flag (!ok)).paths, aK (g.flag (!ok)).conds, aX c.num, aA xs]) Z Z (jH 13 [500,501,502,503,504] h1 h2 Tryz.func119 Z Z Z Z fun O hF => ?_))
 refine bK ?_
 refine ag (jx O Z (ap ?_))
 refine jf [4,0,2] Z (jl O Z (ap ?_))
 refine jn (ah (ag (j2 O Z Z (jf [8,6,4,0] Z (jn (ae O Z Z (fun hc8 => ?_) (fun hc8 => ?_)))))))
 refine an (j3 O Z Z Z (jf [11,6,4] Z (jo O Z (ap ?_))))
 refine bn (js O Z (jf [12,11,6] Z (jo O Z (ap ?_))))
 refine jr ?_
 have hok : ok = false := by simpa using hc8
 subst hok
 rw [show g.flag (!false) = ⟨g.paths, g.conds, true⟩ from iE]
 refine ⟨.inl Z, _, av, _, Z, Z, Z⟩
 refine ak (ag (js O Z (jf [12,6,0] Z (jo O Z (ap ?_)))))
 refine jr ?_
 have hok : ok = true := by simpa using hc8
 subst hok
 rw [show g.flag (!true) = g from fC]
 refine ⟨.inl Z, _, av, _, Z, Z, Z⟩
variable {frm : Int} {w : Pw}
theorem kB (ht : t.ok = true) (hv : gI w.vars 10 = true) (hle : t.xs.length ≤ w.vars.length) : MQ h1 h2 74 [.c (.pt 0 0 0), .c (.pt 4 0 0), cT t] (iH c g frm w) (aS (cT (aD t w.vars).1) (iH c (aR w t g) frm w)) := by
 refine MC.shift 500 Z (MC.keep [500,501,502,503,504,505,506,507] (bs := [iB c (aR w t g) 501 502 503, aJ (aR w t g).paths, aK (aR w t g).conds, aX c.num, iW frm w 505 506 507, aE w.vars, aE w.facts, aA w.ev]) Z Z (jH 17 [500,501,502,503,504,505,506,507] h1 h2 Tryz.func74 Z Z Z Z fun O hF => ?_))
 refine bK ?_
 refine ag (jx O Z (ap ?_))
 refine au (Ent.freeze 5 (e' := [(5, _), (0, _), (1, _)]) Z (.cons Z (.c (.box (cs := Tm.cells t) Z (aC Z))) (fe [0,1] Z)) (.skip (.cons Z (.box (fk Z)) (.cons Z .row (.cons Z .row (.cons Z .map (.cons Z (.box (fk Z)) (.cons Z .row (.cons Z .row (.cons Z .row .nil)))))))))) ?_
 refine ap ?_
 refine jl O Z (ap ?_)
 refine jn (ah (fc O [_,_,_,_,_,_,_,_,_,_,_] [pn [] 0 1, pn [] 0 0, pn [] 0 0, pn [2] 0 0, pn [2,3] 0 0, pn [2,3,4] 0 0, pe (rg 1 5) 0, pn (rg 1 6) 1 1, pn (rg 1 6) 1 1, pe (rg 0 9) 1, pe (rg 0 10) 2] [6,9,10] [_,_,_,_] (ai (kc O Z (V O Z)) (kc O Z (kc O Z (kc O Z (kc O Z (kc O Z (ai (cR O (B0 := 14000) Z Z Z Z (wU (t := t) (vs := w.vars) h1 h2 ht hv hle) (.cons (.agg (aC Z)) (.cons (.c (.whole Z (cw _).symm)) .nil)) Z Z Z Z Z) (kc O Z (kc O Z (ai (bO O [500,501,502,503,14000] (bin := [iB c g 1 2 3, aJ g.paths, aK g.conds, aX c.num, aA (aD t w.vars).1.xs]) Z Z Z Z (zb (c := c) (g := g) (k := (aD t w.vars).1.c) (xs := (aD t w.vars).1.xs) (ok := (aD t w.vars).2) h1 h2) Z Z Z Z Z (B0 := 17000) Z Z Z Z Z Z) (ai (eS O Z Z Z) trivial))))))))))) ?_))
 refine jw [6] Z (bK ?_)
 refine ff ?_
 refine ⟨.inl Z, _, Ent.freeze 14000 (e' := [(6, _)]) Z (fe [6] Z) (.cons Z (.box (.cons (.keep Z) (.cons (.row Z (cw _).symm) .nil))) (.cons Z (.box (fk Z)) (.cons Z .row (.cons Z .row (.cons Z .row (.cons Z (.box (fk Z)) (.cons Z .row (.cons Z .row (.cons Z .map (.skip .nil)))))))))), _, Z, Z, Z⟩
abbrev AS (c : Pc) (g : Gs) (frm : Int) (w : Pw) : List (Nat × B) := [(0, iB c g 1 8 3), (1, aJ g.paths), (3, aX c.num), (4, iW frm w 5 6 7), (5, aE w.vars), (6, aE w.facts), (7, aA w.ev), (8, aK g.conds)]
def da (w : Pw) (t : Tm) (g : Gs) : Gs := (g.goal w t).flag (!t.ok)
theorem qJ (hg : g.conds.length + 1 ≤ L) : MQ h1 h2 115 [.c (.pt 0 0 0), .c (.pt 4 0 0), cT t] (iH c g frm w) (aS (.tup []) (AS c (da w t g) frm w)) := by
 refine MC.shift 500 Z (MC.keep [500,501,503,504,505,506,507,508] (bs := [iB c (da w t g) 501 508 503, aJ (da w t g).paths, aX c.num, iW frm w 505 506 507, aE w.vars, aE w.facts, aA w.ev, aK (da w t g).conds]) Z Z (jH 31 [500,501,502,503,504,505,506,507] h1 h2 Tryz.func115 Z Z Z Z fun O hF => ?_))
 refine bK ?_
 refine ag (jx O Z (ap ?_))
 refine au (Ent.freeze 5 (e' := [(5, _), (0, _), (1, _)]) Z (.cons Z (.c (.box (cs := Tm.cells t) Z (aC Z))) (fe [0,1] Z)) (.skip (.cons Z (.box (fk Z)) (.cons Z .row (.cons Z .row (.cons Z .map (.cons Z (.box (fk Z)) (.cons Z .row (.cons Z .row (.cons Z .row .nil)))))))))) ?_
 refine ap ?_
 refine jn (ah (qw O [_,_,_,_,_,_,_,_,_,_] [pn [] 0 0, pn [0] 0 0, pn [0,1] 0 0, pn [0,1,2] 0 0, pe [0,1,2,3] 0, pn [] 0 1, pe [0,1,2,3,4,5] 1, pn [0,1,2,3,4,5,6] 2 2, pn [] 0 2, pe [0,1,2,3,4,5,6,7,8] 2] [4,6,9] 8 6 (.box [.d .nils, .d (.int .i64 0), .d .nils]) [_,_,_] [_] [[], [], []] (kf O Z Z Z (kf O Z Z Z (kf O Z Z Z (kf O Z Z Z (ai (ai (aF (aI (cR O (B0 := 12000) Z Z Z Z (uh (ts := w.facts) h1 h2) (.cons (.c (.whole Z (cw _).symm)) .nil) Z Z Z Z Z)) (aI (cR O (B0 := 12000) Z Z Z Z (uh (ts := w.facts) h1 h2) (.cons (.c (.whole Z (cw _).symm)) .nil) Z Z Z Z Z))) Z) (ai (kf O Z Z Z (kg O Z Z Z)) (ai (ai (aF (aI (cR O (B0 := 14000) Z Z Z Z (qF (t := t) h1 h2) (af Z) Z Z Z Z Z)) (aI (cR O (B0 := 14000) Z Z Z Z (qF (t := t) h1 h2) (af Z) Z Z Z Z Z))) Z) (kf O Z Z Z (ai (ai (ai (aI (Eff.alloc O Z Z Z Z Z Z)) Z) (ai (ai (aI (Eff.alloc O Z Z Z Z Z Z)) Z) (ai (aI (Eff.alloc O Z Z Z Z Z Z)) Z))) (ai (ai (aF trivial (aI (eS O Z Z Z))) Z) trivial)))))))))) ?_))
 refine jw [6,5,0] Z (bK ?_)
 refine ah (ag (js O Z (aB O Z Z Z Z (pu (t := t) h1 h2) (af Z) Z Z Z Z Z (B0 := 17000) Z (js O Z (jf [17,6,5,0] Z (jn (ae O Z Z (fun hc17 => ?_) (fun hc17 => ?_))))))))
 refine an (j3 O Z Z Z (jf [20,6,5,0] Z (jo O Z (ap ?_))))
 refine jn (jj O [_,_,_,_,_,_,_,_,_,_,_] [pn [] 0 2, pn [] 0 1, pn [1] 0 1, pn [1,2] 0 1, pn [1,2,3] 0 1, pn [] 0 0, pe [5] 0, pe (rg 1 6) 1, pn (rg 0 8) 2 2, pn (rg 0 9) 2 2, pe (rg 0 10) 2] [6,7,10] [_,_,_,_] [[12000,14000], [502,27], []] (ai (ka O Z Z (ka O Z Z (kw O Z Z))) (ai (ka O Z Z (kw O Z Z)) (ai (ka O Z Z (kw O Z Z)) (ai (ka O Z Z (kw O Z Z)) (ai (ka O Z Z (kw O Z Z)) (ka O Z Z (ai (ai (ic [12000,14000] (ds := Sq.cells (⟨w.facts, t⟩ : Sq)) O Z Z Z Z Z Z Z Z Z Z Z Z (fun e => .rs Z (cw _).symm (.d Z (.rs Z (cw _).symm .nil))) Z Z) Z) (ai (ai (fV (xs := g.conds.map Sq.cells) (ys := [Sq.cells (⟨w.facts, t⟩ : Sq)]) (zs := (g.conds ++ [(⟨w.facts, t⟩ : Sq)]).map Sq.cells) (n := (g.conds ++ [(⟨w.facts, t⟩ : Sq)]).length) O Z Z Z Z Z Z Z Z Z Z Z Z Z Z Z Z (.row Z (cw _).symm) Z Z (by decide) Z (by simp; omega) (by simp; omega) (by simp) (by simp) Z) Z) (ka O Z Z (ka O Z Z (ai (ai (aI (eS O Z Z Z)) Z) trivial))))))))))) ?_)
 show _ ∧ _
 have hok : t.ok = false := by simpa using hc17
 rw [show da w t g = ⟨g.paths, g.conds ++ [(⟨w.facts, t⟩ : Sq)], true⟩ by rw [da, hok]; simp [Gs.flag, Gs.goal]]
 refine ⟨.inr Z, _, ac 28 508 Z Z, _, Z, Z, Z⟩
 refine ak (jw [6,5,0] Z (jj O [_,_,_,_,_,_,_,_,_,_,_] [pn [] 0 2, pn [] 0 1, pn [1] 0 1, pn [1,2] 0 1, pn [1,2,3] 0 1, pn [] 0 0, pe [5] 0, pe (rg 1 6) 1, pn (rg 0 8) 2 2, pn (rg 0 9) 2 2, pe (rg 0 10) 2] [6,7,10] [_,_,_,_] [[12000,14000], [502,27], []] (ai (ka O Z Z (ka O Z Z (kw O Z Z))) (ai (ka O Z Z (kw O Z Z)) (ai (ka O Z Z (kw O Z Z)) (ai (ka O Z Z (kw O Z Z)) (ai (ka O Z Z (kw O Z Z)) (ka O Z Z (ai (ai (ic [12000,14000] (ds := Sq.cells (⟨w.facts, t⟩ : Sq)) O Z Z Z Z Z Z Z Z Z Z Z Z (fun e => .rs Z (cw _).symm (.d Z (.rs Z (cw _).symm .nil))) Z Z) Z) (ai (ai (fV (xs := g.conds.map Sq.cells) (ys := [Sq.cells (⟨w.facts, t⟩ : Sq)]) (zs := (g.conds ++ [(⟨w.facts, t⟩ : Sq)]).map Sq.cells) (n := (g.conds ++ [(⟨w.facts, t⟩ : Sq)]).length) O Z Z Z Z Z Z Z Z Z Z Z Z Z Z Z Z (.row Z (cw _).symm) Z Z (by decide) Z (by simp; omega) (by simp; omega) (by simp) (by simp) Z) Z) (ka O Z Z (ka O Z Z (ai (ai (aI (eS O Z Z Z)) Z) trivial))))))))))) ?_))
 show _ ∧ _
 have hok : t.ok = true := by simpa using hc17
 rw [show da w t g = ⟨g.paths, g.conds ++ [(⟨w.facts, t⟩ : Sq)], g.bad⟩ by rw [da, hok]; simp [Gs.flag, Gs.goal]]
 refine ⟨.inr Z, _, ac 28 508 Z Z, _, Z, Z, Z⟩
abbrev AR (c : Pc) (g : Gs) (frm : Int) (w : Pw) : List (Nat × B) := [(0, iB c g 1 2 3), (1, aJ g.paths), (2, aK g.conds), (3, aX c.num), (4, iW frm w 5 9 7), (5, aE w.vars), (7, aA w.ev), (9, aE w.facts)]
theorem p8 {g : Gs} : g.flag true = ⟨g.paths, g.conds, true⟩ := by simp [Gs.flag]
theorem kM {g : Gs} : g.flag false = g := by simp [Gs.flag]
theorem qI (hl : w.facts.length ≤ 1000) : MQ h1 h2 116 [.c (.pt 0 0 0), .c (.pt 4 0 0), cT t] (iH c g frm w) (aS (.tup []) (AR c (g.flag (w.fact t).long) frm (w.fact t))) := by
 refine MC.shift 500 Z (MC.keep [500,501,502,503,504,505,507,509] (bs := [iB c (g.flag (w.fact t).long) 501 502 503, aJ (g.flag (w.fact t).long).paths, aK (g.flag (w.fact t).long).conds, aX c.num, iW frm (w.fact t) 505 509 507, aE (w.fact t).vars, aA (w.fact t).ev, aE (w.fact t).facts]) Z Z (jH 25 [500,501,502,503,504,505,506,507] h1 h2 Tryz.func116 Z Z Z Z fun O hF => ?_))
 refine bK ?_
 refine ag (jx O Z (ap ?_))
 refine au (Ent.freeze 5 (e' := [(5, _), (0, _), (1, _)]) Z (.cons Z (.c (.box (cs := Tm.cells t) Z (aC Z))) (fe [0,1] Z)) (.skip (.cons Z (.box (fk Z)) (.cons Z .row (.cons Z .row (.cons Z .map (.cons Z (.box (fk Z)) (.cons Z .row (.cons Z .row (.cons Z .row .nil)))))))))) ?_
 refine ap ?_
 refine jn (ah (qw O [_,_,_,_,_,_,_,_,_,_,_] [pn [] 0 1, pn [] 0 0, pn [1] 0 0, pn [1,2] 0 0, pn [1,2,3] 0 0, pn [] 0 0, pn [5] 0 0, pe [1,2,3,4,5,6] 0, pn [0,1,2,3,4,5,6,7] 1 1, pn [0,1,2,3,4,5,6,7,8] 1 1, pe [0,1,2,3,4,5,6,7,8,9] 1] [7,10] 6 12 (.row false 2 [Tm.cells t]) [_] [_,_] [[506], []] (ai (kf O Z Z Z (kg O Z Z Z)) (kf O Z Z Z (kf O Z Z Z (kf O Z Z Z (kf O Z Z Z (kf O Z Z Z (ai (ai (aI (dD O Z Z Z Z Z Z Z Z Z Z Z Z Z Z)) Z) (ai (ai (aF trivial (cm (own := false) (xs := w.facts.map Tm.cells) (ys := [Tm.cells t]) (zs := ((w.facts ++ [t])).map Tm.cells) (n := (w.facts ++ [t]).length) O Z Z Z Z Z Z Z Z Z Z Z Z Z Z Z Z (.row Z (cw _).symm) (.whole Z Z (.inr ⟨Z, Z⟩)) (by simp) Z (by simp; omega) (by simp; omega) (by simp) (by simp) Z)) Z) (ai (ai (aF trivial (V O Z)) Z) (ai (ai (aF trivial (V O Z)) Z) (ai (ai (aF trivial (aI (eS O Z Z Z))) Z) trivial))))))))))) ?_))
 refine jw [0,1] Z (bK ?_)
 refine ag (j4 O Z Z Z Z (aa (eX O Z Z (by simp only [de, gt]; omega)) Z Z Z (js O Z (jf [21,0,1] Z (jn (ae O Z Z (fun hc21 => ?_) (fun hc21 => ?_)))))))
 refine an (j3 O Z Z Z (jf [24,1] Z (jo O Z (ap ?_))))
 refine jn ?_
 show _ ∧ _
 have hlo : (w.fact t).long = true := decide_eq_true (by show 12 < (w.facts ++ [t]).length; have := bz hc21; omega)
 rw [hlo, p8]
 refine ⟨.inr Z, _, ac 13 509 Z Z, _, Z, Z, Z⟩
 refine ak ?_
 show _ ∧ _
 have hlo : (w.fact t).long = false := decide_eq_false (by show ¬ 12 < (w.facts ++ [t]).length; have := cp hc21; omega)
 rw [hlo, kM]
 refine ⟨.inr Z, _, ac 13 509 Z Z, _, Z, Z, Z⟩
def bV : cF := fun t => (iP [⟨7, []⟩, t] [1, -1], (iP [⟨7, []⟩, t] [1, -1]).ok)
theorem rE {w : Pw} {t : Tm} {g : Gs} (ht : t.ok = true) : da w (bV t).1 (da w t g) = kz bV w t g := by
 simp only [da, kz, bV, ht, Gs.goal, Gs.flag, Bool.not_true, Bool.or_false]
theorem wb {t : Tm} (ht : t.ok = true) : CtxOk [⟨7, []⟩, t] := by
 refine ⟨fun u hu => ?_, by simp⟩
 rcases List.mem_cons.1 hu with rfl | hu
 decide
 rcases List.mem_cons.1 hu with rfl | hu
 exact ht
 cases hu
theorem vx (ht : t.ok = true) (hg : g.conds.length + 2 ≤ L) : MQ h1 h2 113 [.c (.pt 0 0 0), .c (.pt 4 0 0), cT t] (iH c g frm w) (aS (.tup []) (AS c (kz bV w t g) frm w)) := by
 refine MC.shift 500 Z (MC.keep [500,501,503,504,505,506,507,508] (bs := [iB c (kz bV w t g) 501 508 503, aJ (kz bV w t g).paths, aX c.num, iW frm w 505 506 507, aE w.vars, aE w.facts, aA w.ev, aK (kz bV w t g).conds]) Z Z (jH 20 [500,501,502,503,504,505,506,507] h1 h2 Tryz.func113 Z Z Z Z fun O hF => ?_))
 refine bK ?_
 refine ag (jx O Z (ap ?_))
 refine au (Ent.freeze 5 (e' := [(5, _), (0, _), (1, _)]) Z (.cons Z (.c (.box (cs := Tm.cells t) Z (aC Z))) (fe [0,1] Z)) (.skip (.cons Z (.box (fk Z)) (.cons Z .row (.cons Z .row (.cons Z .map (.cons Z (.box (fk Z)) (.cons Z .row (.cons Z .row (.cons Z .row .nil)))))))))) ?_
 refine ap ?_
 refine bn (j3 O Z Z Z (aj O [500,501,502,503,504,505,506,507] (bin := [iB c g 1 2 3, aJ g.paths, aK g.conds, aX c.num, iW frm w 5 6 7, aE w.vars, aE w.facts, aA w.ev]) Z Z Z Z (qJ (c := c) (g := g) (frm := frm) (w := w) (t := t) h1 h2 (by omega)) Z Z Z Z Z Z (B0 := 11000) Z Z (ap ?_)))
 refine jf [5,0,1] Z (bn (j2 O Z Z (AOps.heap (bA O Z Z Z Z Z Z Z Z Z Z Z) Z (ap ?_))))
 refine au (Ent.rowLe 13 Z (.cons (.cons .refl (.cons (.nil (sz := 1)) .nil)) (.cons (.cons .refl (.cons .refl .nil)) .nil))) (ap ?_)
 refine ap ?_
 refine jf [13,5,0,1] Z (AOps.heap (bB O Z Z Z) Z (ap ?_))
 refine au (Ent.freeze 13 (e' := [(14, _), (13, _), (0, _), (1, _)]) Z (.cons Z (.keep Z) (.cons Z (.c (.row Z Z)) (fe [0,1] Z))) (.skip (.cons Z .row (.cons Z (.box (fk Z)) (.cons Z .row (.cons Z .map (.cons Z (.box (fk Z)) (.cons Z .row (.cons Z .row (.cons Z .row (.cons Z .row .nil))))))))))) ?_
 refine au (Ent.freeze 14 (e' := [(14, _), (13, _), (0, _), (1, _)]) Z (.cons Z (.c (.row Z Z)) (fe [13,0,1] Z)) (.skip (.cons Z (.box (fk Z)) (.cons Z .row (.cons Z .map (.cons Z (.box (fk Z)) (.cons Z .row (.cons Z .row (.cons Z .row (.cons Z .row .nil)))))))))) ?_
 refine ap ?_
 refine ay O Z Z Z Z (vU (ts := [⟨7, []⟩, t]) (ms := [1, -1]) h1 h2 (wb ht) (by decide) (cN _)) (af Z) Z Z Z Z (B0 := 16000) Z Z (jf [15,0,1] Z (jl O Z (ap ?_)))
 refine jo O Z (ap ?_)
 refine jn (an (j3 O Z Z Z (aj O [500,501,11008,503,504,505,506,507] (bin := [iB c (da w t g) 1 2 3, aJ (da w t g).paths, aK (da w t g).conds, aX c.num, iW frm w 5 6 7, aE w.vars, aE w.facts, aA w.ev]) Z Z Z Z (qJ (c := c) (g := (da w t g)) (frm := frm) (w := w) (t := (bV t).1) h1 h2 (by simp only [da, Gs.flag, Gs.goal, de, gt]; omega)) Z Z Z Z Z Z (B0 := 20000) Z Z (ap ?_))))
 refine jf [6,15,0,1] Z (jn ?_)
 show _ ∧ _
 rw [← rE ht]
 refine ⟨.inr Z, _, ac 20008 508 Z Z, _, Z, Z, Z⟩
abbrev iHE (c : Pc) (g : Gs) (frm : Int) (w : Pw) : List (Nat × B) := [(0, iB c g 9 8 3), (3, aX c.num), (4, iW frm w 5 6 7), (5, aE w.vars), (6, aE w.facts), (7, aA w.ev), (8, aK g.conds), (9, aJ g.paths)]
theorem ro {w : Pw} {t : Tm} {g : Gs} : da w (aD t w.vars).1 (aR w t g) = bl w g t := by
 simp only [da, dN, bl, Gs.flag, Bool.not_true, Bool.or_false]
theorem nr {w : Pw} (hw : CtxOk w.vars) (hv : w.vars.length = 4) : gI w.vars 10 = true := by
 unfold gI
 rw [List.all_eq_true.2 hw.ok, decide_eq_true (by omega)]; rfl
theorem sG {to : Int} {fs : List Tm} (hw : CtxOk w.vars) (hv : w.vars.length = 4) (hf : TsOk fs) (hg : g.conds.length + fs.length ≤ L) (hp : g.paths.length + 1 ≤ L) : MQ h1 h2 112 [.c (.pt 0 0 0), .c (.pt 4 0 0), eI to, cW fs] (iH c g frm w) (aS (.tup []) (iHE c (cV frm w to fs g) frm w)) := by
 refine MC.shift 500 Z (MC.keep [500,503,504,505,506,507,508,509] (bs := [iB c (cV frm w to fs g) 509 508 503, aX c.num, iW frm w 505 506 507, aE w.vars, aE w.facts, aA w.ev, aK (cV frm w to fs g).conds, aJ (cV frm w to fs g).paths]) Z Z (jH 63 [500,501,502,503,504,505,506,507] h1 h2 Tryz.func112 Z Z Z Z fun O hF => ?_))
 refine bK ?_
 have hpe : (fs.foldl (bl w) g).paths.length = g.paths.length := congrArg List.length dG
 have hva := nr hw hv
 have hll : fs.length ≤ L := by omega
 refine ah (ag (js O Z (eK O Z (js O Z (jn (aq (aH (X := Nat) (fun i => ⟨[(0, .c (.pt 500 0 0)), (1, .c (.pt 504 0 0)), (2, eI to), (10, cW fs), (11, eI fs.length), (12, eI i)], [(500, iB c ((fs.take i).foldl (bl w) g) 501 902 503), (501, aJ ((fs.take i).foldl (bl w) g).paths), (503, aX c.num), (504, iW frm w 505 506 507), (505, aE w.vars), (506, aE w.facts), (507, aA w.ev), (902, aK ((fs.take i).foldl (bl w) g).conds)]⟩) (fun i => i ≤ fs.length) (fun i => fs.length - i) 0 (((am [500,501,503,504,505,506,507,502] (e' := [(0, _), (1, _), (2, _), (10, _), (11, _), (12, _)]) Z Z ⟨Z, Z, Z, Z, Z, Z, trivial⟩ Z).trans (ac 502 902 Z Z)).trans (Ent.to ⟨Z, Z, Z, Z, Z, Z, trivial⟩ Z)) ?_ (fun i hi => ?_))))))))
 exact dF _
 refine ag (js O Z (jn (ah (ae O Z Z (fun hc13 => ?_) (fun hc13 => ?_)))))
 refine ak (ah (aq (ag (r6 O Z Z (js O Z (jf [15,13,0,1,2,10,11,12] Z (jl O Z (ap ?_))))))))
 refine jo O Z (ap ?_)
 refine jn (an (j4 O Z Z Z Z (js O Z ?_)))
 have hil : i < fs.length := by have := bz hc13; omega
 have hfi := hf.get hil
 have hci := jd (w := w) (fs := fs.take i) (g := g)
 rw [List.length_take, Nat.min_eq_left (by omega)] at hci
 refine aj O [500,501,902,503,504,505,506,507] (bin := [iB c ((fs.take i).foldl (bl w) g) 1 2 3, aJ ((fs.take i).foldl (bl w) g).paths, aK ((fs.take i).foldl (bl w) g).conds, aX c.num, iW frm w 5 6 7, aE w.vars, aE w.facts, aA w.ev]) Z Z Z Z (kB (c := c) (g := ((fs.take i).foldl (bl w) g)) (frm := frm) (w := w) (t := (fs.getD i default)) h1 h2 hfi.1 hva (by omega)) Z Z Z Z Z Z (B0 := 22000) Z Z (ap ?_)
 refine jf [21,17,16,9,15,13,0,1,2,10,11,12] Z (aj O [500,501,902,503,504,505,506,507] (bin := [iB c (aR w (fs.getD i default) ((fs.take i).foldl (bl w) g)) 1 2 3, aJ (aR w (fs.getD i default) ((fs.take i).foldl (bl w) g)).paths, aK (aR w (fs.getD i default) ((fs.take i).foldl (bl w) g)).conds, aX c.num, iW frm w 5 6 7, aE w.vars, aE w.facts, aA w.ev]) Z Z Z Z (qJ (c := c) (g := (aR w (fs.getD i default) ((fs.take i).foldl (bl w) g))) (frm := frm) (w := w) (t := (aD (fs.getD i default) w.vars).1) h1 h2 (show ((fs.take i).foldl (bl w) g).conds.length + 1 ≤ L by omega)) Z Z Z Z Z Z (B0 := 23000) Z Z (ap ?_))
 refine jf [9,15,13,0,1,2,10,11,12] Z (jn (an (ji O Z (js O Z (jn ?_)))))
 refine ⟨i + 1, ((am [500,501,503,504,505,506,507,23008] (e' := [(0, _), (1, _), (2, _), (10, _), (11, _), (12, _)]) Z Z ⟨Z, Z, Z, Z, Z, Z, trivial⟩ Z).trans (ac 23008 902 Z Z)).trans (Ent.to ⟨Z, Z, Z, Z, Z, Z, trivial⟩ (by rw [mN hil, ← ro]; rfl)), by omega, by omega⟩
 refine bH (ah ?_)
 obtain rfl : i = fs.length := by have := cp hc13; omega
 rw [List.take_length]
 refine jj O [_,_,_,_,_,_,_,_,_,_,_,_,_,_,_,_,_,_,_,_,_,_,_,_,_,_,_,_,_,_,_] [pn [] 0 5, pn [] 0 4, pn [1] 0 4, pn [1,2] 0 4, pn [1,2,3] 0 4, pn [] 0 3, pn [5] 0 3, pn [5,6] 0 3, pn [5,6,7] 0 3, pn [] 0 3, pn [] 0 0, pn [10] 0 0, pn [10,11] 0 0, pn [10,11,12] 0 0, pe (rg 10 4) 0, pn [] 0 1, pn [15] 0 1, pn [15,16] 0 1, pn [15,16,17] 0 1, pe (rg 10 9) 1, pn [] 0 2, pn [20] 0 2, pn [20,21] 0 2, pn [20,21,22] 0 2, pe (rg 10 14) 2, pn (rg 5 20) 3 3, pe (rg 5 21) 3, pe (rg 1 26) 4, pn (rg 0 28) 5 5, pn (rg 0 29) 5 5, pe (rg 0 30) 5] [14,19,24,26,27,30] [_,_,_,_,_,_,_] [[], [], [], [39000,44000,49000], [501,50], []] (ai (ka O Z Z (ka O Z Z (ka O Z Z (ka O Z Z (ka O Z Z (kw O Z Z)))))) (ai (ka O Z Z (ka O Z Z (ka O Z Z (ka O Z Z (kw O Z Z))))) (ai (ka O Z Z (ka O Z Z (ka O Z Z (ka O Z Z (kw O Z Z))))) (ai (ka O Z Z (ka O Z Z (ka O Z Z (ka O Z Z (kw O Z Z))))) (ai (ka O Z Z (ka O Z Z (ka O Z Z (ka O Z Z (kw O Z Z))))) (ai (ka O Z Z (ka O Z Z (ka O Z Z (kw O Z Z)))) (ai (ka O Z Z (ka O Z Z (ka O Z Z (kw O Z Z)))) (ai (ka O Z Z (ka O Z Z (ka O Z Z (kw O Z Z)))) (ai (ka O Z Z (ka O Z Z (ka O Z Z (kw O Z Z)))) (ai (ka O Z Z (ka O Z Z (ka O Z Z (kw O Z Z)))) (ka O Z Z (ka O Z Z (ka O Z Z (ka O Z Z (ai (ai (aI (cR O (B0 := 39000) Z Z Z Z (uh (ts := w.facts) h1 h2) (.cons (.c (.whole Z (cw _).symm)) .nil) Z Z Z Z Z)) Z) (ai (ka O Z Z (kw O Z Z)) (ai (ka O Z Z (kw O Z Z)) (ai (ka O Z Z (kw O Z Z)) (ai (ka O Z Z (kw O Z Z)) (ai (ai (aI (cR O (B0 := 44000) Z Z Z Z (uh (ts := w.vars) h1 h2) (.cons (.c (.whole Z (cw _).symm)) .nil) Z Z Z Z Z)) Z) (ai (ka O Z Z (ka O Z Z (kw O Z Z))) (ai (ka O Z Z (ka O Z Z (kw O Z Z))) (ai (ka O Z Z (ka O Z Z (kw O Z Z))) (ai (ka O Z Z (ka O Z Z (kw O Z Z))) (ai (ai (aI (cR O (B0 := 49000) Z Z Z Z (sq (xs := w.ev) h1 h2) (.cons (.c (.whole Z (cw _).symm)) .nil) Z Z Z Z Z)) Z) (ka O Z Z (ai (ai (ic [39000,44000,49000] (ds := Pth.cells (⟨frm, to, w.facts, w.vars, w.ev⟩ : Pth)) O Z Z Z Z Z Z Z Z Z Z Z Z (fun e => .d Z (.d Z (.rs Z (cw _).symm (.rs Z (cw _).symm (.rs Z (cw _).symm .nil))))) Z Z) Z) (ai (ai (fV (xs := (fs.foldl (bl w) g).paths.map Pth.cells) (ys := [Pth.cells (⟨frm, to, w.facts, w.vars, w.ev⟩ : Pth)]) (zs := ((fs.foldl (bl w) g).paths ++ [(⟨frm, to, w.facts, w.vars, w.ev⟩ : Pth)]).map Pth.cells) (n := ((fs.foldl (bl w) g).paths ++ [(⟨frm, to, w.facts, w.vars, w.ev⟩ : Pth)]).length) O Z Z Z Z Z Z Z Z Z Z Z Z Z Z Z Z (.row Z (cw _).symm) Z Z (by decide) Z (by simp; omega) (by simp; omega) (by simp) (by simp) Z) Z) (ka O Z Z (ka O Z Z (ai (ai (aI (eS O Z Z Z)) Z) trivial))))))))))))))))))))))))))))))) ?_
 refine jw [13,0,1,2,10,11,12] Z (bK ?_)
 refine ag (j4 O Z Z Z Z (aa (eX O Z Z (by simp only [de, gt]; omega)) Z Z Z (js O Z (jf [59,13,0,1,2,10,11,12] Z (jn (ae O Z Z (fun hc59 => ?_) (fun hc59 => ?_)))))))
 refine an (j3 O Z Z Z (jf [62,59,13,0,1,2,10,11,12] Z (jo O Z (ap ?_))))
 refine jn ?_
 show _ ∧ _
 have hlo : decide (200 < (fs.foldl (bl w) g).paths.length + 1) = true := decide_eq_true (by show 200 < (fs.foldl (bl w) g).paths.length + 1; have := bz hc59; rw [de, gt] at this; omega)
 rw [show (cV frm w to fs g) = ⟨(fs.foldl (bl w) g).paths ++ [(⟨frm, to, w.facts, w.vars, w.ev⟩ : Pth)], (fs.foldl (bl w) g).conds, true⟩ by unfold cV fL; rw [hlo]; simp]
 refine ⟨.inr Z, _, (ac 51 509 Z Z).trans (ac 902 508 Z Z), _, Z, Z, Z⟩
 refine ak ?_
 show _ ∧ _
 have hlo : decide (200 < (fs.foldl (bl w) g).paths.length + 1) = false := decide_eq_false (by show ¬ 200 < (fs.foldl (bl w) g).paths.length + 1; have := cp hc59; rw [de, gt] at this; omega)
 rw [show (cV frm w to fs g) = ⟨(fs.foldl (bl w) g).paths ++ [(⟨frm, to, w.facts, w.vars, w.ev⟩ : Pth)], (fs.foldl (bl w) g).conds, (fs.foldl (bl w) g).bad⟩ by unfold cV fL; rw [hlo]; simp]
 refine ⟨.inr Z, _, (ac 51 509 Z Z).trans (ac 902 508 Z Z), _, Z, Z, Z⟩
theorem wW (hs : w.sym = 10) : MQ h1 h2 114 [.c (.pt 0 0 0), .c (.pt 4 0 0)] (iH c g frm w) (aS (.agg [.d (.int .i64 0), .d .nils]) (iH c (⟨g.paths, g.conds, true⟩ : Gs) frm w)) := by
 refine MC.shift 500 Z (MC.keep [500,501,502,503,504,505,506,507] (bs := [iB c (⟨g.paths, g.conds, true⟩ : Gs) 501 502 503, aJ (⟨g.paths, g.conds, true⟩ : Gs).paths, aK (⟨g.paths, g.conds, true⟩ : Gs).conds, aX c.num, iW frm w 505 506 507, aE w.vars, aE w.facts, aA w.ev]) Z Z (jH 27 [500,501,502,503,504,505,506,507] h1 h2 Tryz.func114 Z Z Z Z fun O hF => ?_))
 refine bK ?_
 refine ag (jl O Z (ap ?_))
 refine jn (ah (ag (j4 O Z Z Z Z (js O Z (jf [9,4,0,1] Z (jn (ae O Z Z (fun hc9 => ?_) (fun hc9 => ?_))))))))
 refine ag (j3 O Z Z Z (jf [12,4,1] Z (jo O Z (ap ?_))))
 refine bn (js O Z (jo O Z (ap ?_)))
 refine jr ?_
 refine ⟨.inl Z, _, av, _, Z, Z, Z⟩
 exact absurd (cp hc9) (by omega)
theorem ze (hs : w.sym < 10) : MQ h1 h2 114 [.c (.pt 0 0 0), .c (.pt 4 0 0)] (iH c g frm w) (aS (cT (gz w.sym)) (iH c g frm (⟨w.vars, w.facts, w.ev, w.sym + 1⟩ : Pw))) := by
 refine MC.shift 500 Z (MC.keep [500,501,502,503,504,505,506,507] (bs := [iB c g 501 502 503, aJ g.paths, aK g.conds, aX c.num, iW frm (⟨w.vars, w.facts, w.ev, w.sym + 1⟩ : Pw) 505 506 507, aE (⟨w.vars, w.facts, w.ev, w.sym + 1⟩ : Pw).vars, aE (⟨w.vars, w.facts, w.ev, w.sym + 1⟩ : Pw).facts, aA (⟨w.vars, w.facts, w.ev, w.sym + 1⟩ : Pw).ev]) Z Z (jH 27 [500,501,502,503,504,505,506,507] h1 h2 Tryz.func114 Z Z Z Z fun O hF => ?_))
 refine bK ?_
 refine ag (jl O Z (ap ?_))
 refine jn (ah (ag (j4 O Z Z Z Z (js O Z (jf [9,4,0,1] Z (jn (ae O Z Z (fun hc9 => ?_) (fun hc9 => ?_))))))))
 exact absurd (bz hc9) (by omega)
 refine ak (ag (j4 O Z Z Z Z (aa ((vF O Z).cast (v' := eI ((w.sym + 1 : Nat) : Int)) (congrArg eI (by omega))) Z Z Z (j2 O Z Z (jf [20,18,4,0,1] Z (jo O Z (ap ?_)))))))
 refine jf [4,0,1] Z (bn (j4 O Z Z Z Z (aa ((vF O Z).cast (v' := eI ((w.sym : Nat) : Int)) (congrArg eI (by omega))) Z Z Z (jf [25,4,0,1] Z (ay O Z Z Z Z (vy (k := w.sym) h1 h2 hs) (af Z) Z Z Z Z (B0 := 27000) Z Z (jf [26,4,0,1] Z (jo O Z (ap ?_))))))))
 refine jr ?_
 refine ⟨.inl Z, _, av, _, Z, Z, Z⟩
theorem yW {c : Tm} {r : List Tm} (hl : (c :: r).length ≤ 1000) : MQ h1 h2 110 [.c (.rs 0 0 (c :: r).length)] [(0, aE (c :: r))] (aS (.c (.rs 1 0 (c :: r).length)) [(0, aE (c :: r)), (1, aE (c :: r))]) := by
 refine MC.shift 500 Z (MC.keep [500,501] (bs := [aE (c :: r), aE (c :: r)]) Z Z (jH 8 [500] h1 h2 Tryz.func110 Z Z Z Z fun O hF => ?_))
 refine bK ?_
 refine ag (js O Z (jn (ah (ag (j2 O Z Z (jn (ae O Z Z (fun hc4 => ?_) (fun hc4 => ?_))))))))
 exact absurd (show false = true from hc4) (by decide)
 refine ak (ag (AOps.heap (bB O Z Z Z) Z (ap ?_)))
 refine js O Z (jf [6,5,3,2,0] Z ?_)
 have hl2 := hl
 simp only [iX] at hl2
 refine au (cy 5 Z) (AOps.heap (bk (own := false) (zs := (c :: r).map Tm.cells) (n := (c :: r).length) O Z Z Z Z Z Z Z Z Z Z Z Z Z Z Z Z (.row Z Z) (.whole Z (by simp) (.inr ⟨Z, Z⟩)) (by simp) Z (by simp; omega) (by simp; omega) Z (by simp)) Z (ap ?_))
 refine js O Z (jf [2,3,0] Z (jr ?_))
 refine ⟨.inl Z, _, ac 7 501 Z Z, _, Z, Z, Z⟩
theorem yU : MQ h1 h2 110 [.c (.rs 0 0 0)] [(0, aE [])] (aS (.c (.rs 1 0 0)) [(0, aE []), (1, aE [])]) := by
 refine MC.shift 500 Z (MC.keep [500,501] (bs := [aE [], aE []]) Z Z (jH 8 [500] h1 h2 Tryz.func110 Z Z Z Z fun O hF => ?_))
 refine bK ?_
 refine ag (js O Z (jn (ah (ag (js O Z (kT O Z Z Z Z Z Z Z Z Z Z (fun b => ?_)))))))
 refine jn (ae O Z Z (fun hc4 => ?_) (fun hc4 => ?_))
 refine ag (js O Z (jr ?_))
 refine ⟨.inl Z, _, fU 2 501 2 false Z Z, _, Z, Z, Z⟩
 refine ak (ag (AOps.heap (bB O Z Z Z) Z (ap ?_)))
 refine js O Z (jf [6,5,3,2,0] Z (au (cy 5 Z) (AOps.heap (bk (own := false) (zs := []) (n := 0) O Z Z Z Z Z Z Z Z Z Z Z Z Z Z Z Z (.row Z Z) (.whole Z (by simp) (.inr ⟨Z, Z⟩)) (by simp) Z (by simp) (by simp) Z (by simp)) Z (ap ?_))))
 refine js O Z (jf [2,3,0] Z (jr ?_))
 refine ⟨.inl Z, _, ac 7 501 Z Z, _, Z, Z, Z⟩
theorem vq {L : Nat} (h1 : 4096 ≤ L) (h2 : L ≤ 1073741824) {ts : List Tm} (hl : ts.length ≤ 1000) : MC Tryz.prog L 110 [.c (.rs 0 0 ts.length)] [(0, aE ts)] (aS (.c (.rs 1 0 ts.length)) [(0, aE ts), (1, aE ts)]) := by
 cases ts with
 | nil => exact yU h1 h2
 | cons c r => exact yW h1 h2 hl
theorem wS {c : Int} {r : List Int} (hl : (c :: r).length ≤ 1000) : MQ h1 h2 159 [.c (.rs 0 0 (c :: r).length)] [(0, aA (c :: r))] (aS (.c (.rs 1 0 (c :: r).length)) [(0, aA (c :: r)), (1, aA (c :: r))]) := by
 refine MC.shift 500 Z (MC.keep [500,501] (bs := [aA (c :: r), aA (c :: r)]) Z Z (jH 8 [500] h1 h2 Tryz.func159 Z Z Z Z fun O hF => ?_))
 refine bK ?_
 refine ag (js O Z (jn (ah (ag (j2 O Z Z (jn (ae O Z Z (fun hc4 => ?_) (fun hc4 => ?_))))))))
 exact absurd (show false = true from hc4) (by decide)
 refine ak (ag (AOps.heap (bB O Z Z Z) Z (ap ?_)))
 refine js O Z (jf [6,5,3,2,0] Z ?_)
 have hl2 := hl
 simp only [iX] at hl2
 refine AOps.heap (bk (own := true) (zs := (c :: r).map (fun n => [D.int .i64 n])) (n := (c :: r).length) O Z Z Z Z Z Z Z Z Z Z Z Z Z Z Z Z (.row Z Z) (.whole Z (by simp) (.inl (Scal.map (fun a => rfl)))) (by simp) Z (by simp; omega) (by simp; omega) Z (by simp)) Z (ap ?_)
 refine js O Z (jf [2,3,0] Z (jr ?_))
 refine ⟨.inl Z, _, ac 7 501 Z Z, _, Z, Z, Z⟩
theorem wR : MQ h1 h2 159 [.c (.rs 0 0 0)] [(0, aA [])] (aS (.c (.rs 1 0 0)) [(0, aA []), (1, aA [])]) := by
 refine MC.shift 500 Z (MC.keep [500,501] (bs := [aA [], aA []]) Z Z (jH 8 [500] h1 h2 Tryz.func159 Z Z Z Z fun O hF => ?_))
 refine bK ?_
 refine ag (js O Z (jn (ah (ag (js O Z (kT O Z Z Z Z Z Z Z Z Z Z (fun b => ?_)))))))
 refine jn (ae O Z Z (fun hc4 => ?_) (fun hc4 => ?_))
 refine ag (js O Z (jr ?_))
 refine ⟨.inl Z, _, fU 2 501 1 true Z Z, _, Z, Z, Z⟩
 refine ak (ag (AOps.heap (bB O Z Z Z) Z (ap ?_)))
 refine js O Z (jf [6,5,3,2,0] Z (AOps.heap (bk (own := true) (zs := []) (n := 0) O Z Z Z Z Z Z Z Z Z Z Z Z Z Z Z Z (.row Z Z) (.whole Z (by simp) (.inl (Scal.map (fun a => rfl)))) (by simp) Z (by simp) (by simp) Z (by simp)) Z (ap ?_)))
 refine js O Z (jf [2,3,0] Z (jr ?_))
 refine ⟨.inl Z, _, ac 7 501 Z Z, _, Z, Z, Z⟩
theorem wQ {L : Nat} (h1 : 4096 ≤ L) (h2 : L ≤ 1073741824) {ts : List Int} (hl : ts.length ≤ 1000) : MC Tryz.prog L 159 [.c (.rs 0 0 ts.length)] [(0, aA ts)] (aS (.c (.rs 1 0 ts.length)) [(0, aA ts), (1, aA ts)]) := by
 cases ts with
 | nil => exact wR h1 h2
 | cons c r => exact wS h1 h2 hl
theorem yT : MQ h1 h2 110 [.c (.d .nils)] [] (Plain (.c (.d .nils))) := by
 refine jB 8 h1 h2 Tryz.func110 Z Z Z fun O hF => ?_
 refine ag (js O Z (jn (ah (ag (j2 O Z Z (jn (ae O Z Z (fun hc4 => ?_) (fun hc4 => ?_))))))))
 refine ag (js O Z (jr ?_))
 refine ⟨.inl Z, _, av, _, Z, ?_⟩
 exact ⟨Z, Z⟩
 exact absurd (show true = false from hc4) (by decide)
abbrev wA (frm : Int) (w : Pw) (i j k : Nat) : A := .agg [.d (.int .i64 frm), .rs i 0 w.vars.length, .d .nils, .rs j 0 w.facts.length, .rs k 0 w.ev.length, .d (.int .i64 (w.sym : Int))]
theorem qH (hv : w.vars.length ≤ 1000) (hl : w.facts.length ≤ 1000) (he : w.ev.length ≤ 1000) : MQ h1 h2 121 [wA frm w 0 1 2] [(0, aE w.vars), (1, aE w.facts), (2, aA w.ev)] (aS (wA frm w 3 4 5) [(0, aE w.vars), (1, aE w.facts), (2, aA w.ev), (3, aE w.vars), (4, aE w.facts), (5, aA w.ev)]) := by
 refine MC.shift 500 Z (MC.keep [500,501,502,503,504,505] (bs := [aE w.vars, aE w.facts, aA w.ev, aE w.vars, aE w.facts, aA w.ev]) Z Z (jH 20 [500,501,502] h1 h2 Tryz.func121 Z Z Z Z fun O hF => ?_))
 refine bK ?_
 refine ag (jx O Z (ap ?_))
 refine jf [1] Z (jl O Z (ap ?_))
 refine jn (ah (fc O [_,_,_,_,_,_,_,_,_,_,_,_,_,_,_,_,_,_,_,_] [pn [] 0 0, pn [0] 0 0, pe [0,1] 0, pn [] 0 1, pn [3] 0 1, pe (rg 0 5) 1, pn [] 0 2, pn [6] 0 2, pe (rg 0 8) 2, pn [] 0 3, pn [9] 0 3, pe (rg 0 11) 3, pn [0,1,2,3,4,6,7,9,10] 1 4, pe (rg 0 13) 4, pn (rg 0 14) 5 5, pe (rg 0 15) 5, pn (rg 0 16) 6 6, pe (rg 0 17) 6, pn (rg 0 18) 7 7, pe (rg 0 19) 7] [2,5,8,11,13,15,17,19] [_,_,_,_,_,_,_,_,_] (kc O Z (kc O Z (ai (bO O [500] (bin := [aE w.vars]) Z Z Z Z (vq h1 h2 hv) Z Z Z Z Z (B0 := 6000) Z Z Z Z Z Z) (ai (kc O Z (V O Z)) (ai (kc O Z (V O Z)) (ai (bL O (B0 := 9000) Z Z Z Z (yT h1 h2) (af Z) Z Z Z Z Z) (ai (kc O Z (kc O Z (V O Z))) (ai (kc O Z (kc O Z (V O Z))) (ai (bO O [501] (bin := [aE w.facts]) Z Z Z Z (vq h1 h2 hl) Z Z Z Z Z (B0 := 12000) Z Z Z Z Z Z) (ai (kc O Z (kc O Z (kc O Z (V O Z)))) (ai (kc O Z (kc O Z (kc O Z (V O Z)))) (ai (bO O [502] (bin := [aA w.ev]) Z Z Z Z (wQ h1 h2 he) Z Z Z Z Z (B0 := 15000) Z Z Z Z Z Z) (ai (kc O Z (kc O Z (kc O Z (V O Z)))) (ai (eS O Z Z Z) (kc O Z (ai (eS O Z Z Z) (kc O Z (ai (eS O Z Z Z) (kc O Z (ai (eS O Z Z Z) trivial)))))))))))))))))))) ?_))
 refine jw [2,1] Z (bK ?_)
 refine ag (js O Z (jo O Z (ap ?_)))
 refine jr ?_
 refine ⟨.inl Z, _, ((ac 6001 503 Z Z).trans (ac 12001 504 Z Z)).trans (ac 15001 505 Z Z), _, Z, Z, Z⟩
theorem sY {ok : Bool} : MQ h1 h2 119 [.c (.pt 0 0 0), cT t, eB ok] [(0, iB c g 1 2 3), (1, aJ g.paths), (2, aK g.conds), (3, aX c.num)] (aS (cT t) [(0, iB c (g.flag (!ok)) 1 2 3), (1, aJ (g.flag (!ok)).paths), (2, aK (g.flag (!ok)).conds), (3, aX c.num)]) := by
 refine MC.shift 500 Z (MC.keep [500,501,502,503] (bs := [iB c (g.flag (!ok)) 501 502 503, aJ (g.flag (!ok)).paths, aK (g.flag (!ok)).conds, aX c.num]) Z Z (jH 13 [500,501,502,503] h1 h2 Tryz.func119 Z Z Z Z fun O hF => ?_))
 refine bK ?_
 refine ag (jx O Z (ap ?_))
 refine jf [4,0,2] Z (jl O Z (ap ?_))
 refine jn (ah (ag (j2 O Z Z (jf [8,6,4,0] Z (jn (ae O Z Z (fun hc8 => ?_) (fun hc8 => ?_)))))))
 refine an (j3 O Z Z Z (jf [11,6,4] Z (jo O Z (ap ?_))))
 refine bn (js O Z (jf [12,11,6] Z (jo O Z (ap ?_))))
 refine jr ?_
 have hok : ok = false := by simpa using hc8
 subst hok
 rw [show g.flag (!false) = ⟨g.paths, g.conds, true⟩ from iE]
 refine ⟨.inl Z, _, av, _, Z, Z, Z⟩
 refine ak (ag (js O Z (jf [12,6,0] Z (jo O Z (ap ?_)))))
 refine jr ?_
 have hok : ok = true := by simpa using hc8
 subst hok
 rw [show g.flag (!true) = g from fC]
 refine ⟨.inl Z, _, av, _, Z, Z, Z⟩
end Go.Al
