/- The program: goals, facts, ends of paths, copies. -/
import Derived.Test.YtbkloknmpkgmbaaGreatH
import Derived.Test.YtbkloknmpkgmbaaGreatM
import Derived.Test.YtbkloknmpkgmbaaGreatC
set_option linter.unusedVariables false
set_option linter.unusedSimpArgs false
set_option maxRecDepth 10000
set_option maxHeartbeats 4000000
open Go.Proofs
namespace Go.Al
variable {L : Nat} (h1 : 4096 ≤ L) (h2 : L ≤ 1073741824)
variable {t : Tm}
theorem vm : MQ h1 h2 191 [cP t] [] (Rows (.tup [.agg [.d (.int .i64 (kO t).1.c), .rs 0 0 (kO t).1.xs.length], eB (kO t).2]) [aZ (kO t).1.xs]) := by
 refine cw (jB 10 h1 h2 Tryz.func191 Z Z Z fun O hF => ?_)
 refine ag (jx O Z (av ?_))
 refine jf [1] Z (jl O Z (av ?_))
 refine js O Z (jn (ah (ag (js O Z (aA O Z Z Z Z (nA (t := t) h1 h2) (ac Z) Z Z Z Z Z (B0 := 6000) Z (js O Z (jf [6,3,2,1] Z (jn (af O Z Z (fun hc6 => ?_) (fun hc6 => ?_))))))))))
 refine ag (js O Z (jf [7,3,2,1] Z (jo O Z (av ?_))))
 refine js O Z (jr ?_)
 have hok : t.ok = false := by simpa using hc6
 rw [show kO t = (⟨0, []⟩, false) from if_neg (by rw [hok]; decide)]
 refine ⟨.inl Z, _, cM 2 900 1 true 1 Z Z Z, _, Z, [900], by decide, Z, Z, Z⟩
 refine an (ag (js O Z (jf [8,3,2,1] Z (cK O (B0 := 10000) Z Z Z Z (pQ (t := t) h1 h2) (ac Z) Z Z Z Z Z Z (av ?_)))))
 refine jf [9,3,2,1] Z (jo O Z (av ?_))
 refine js O Z (jr ?_)
 have hok : t.ok = true := by simpa using hc6
 rw [show kO t = (t, true) from if_pos hok]
 refine ⟨.inl Z, _, ar, _, Z, [10000], by decide, Z, Z, Z⟩
theorem vn {vs : List Tm} (ht : t.ok = true) (hv : eX vs 10 = true) (hle : t.xs.length ≤ vs.length) : MQ h1 h2 164 [cP t, b0 vs] [] (Rows (.tup [.agg [.d (.int .i64 (aJ t vs).1.c), .rs 0 0 (aJ t vs).1.xs.length], eB (aJ t vs).2]) [aZ (aJ t vs).1.xs]) := by
 refine cw (jB 64 h1 h2 Tryz.func164 Z Z Z fun O hF => ?_)
 have htl := oy ht
 refine ag (jx O Z (av ?_))
 refine jf [2,1] Z (jl O Z (av ?_))
 refine js O Z (jn (ah (ag (js O Z (aA O Z Z Z Z (nA (t := t) h1 h2) (ac Z) Z Z Z Z Z (B0 := 13000) Z (j2 O Z Z (jf [14,5,4,2,1] Z (ax 3 Z Z Z (fun hx => ab hx Z Z Z (V O Z) Z Z ( bv O hx Z Z Z Z (wD (ts := vs) (n := 10) h1 h2) (ac Z) Z Z Z Z Z Z Z (B0 := 17000) Z ( ab hx Z Z Z (V O Z) Z Z ( AN.nil)))) Z Z (aa (aQ O Z Z Z Z Z) Z Z Z (jf [18,5,4,2,1] Z (jn (af O Z Z (fun hc18 => ?_) (fun hc18 => ?_)))))))))))))
 exact absurd hc18 (by rw [hv, ht]; decide)
 refine an (ag (j3 O Z Z Z (jf [22,5,4,2,1] Z (AOps.heap (bn O Z Z Z Z Z Z Z Z Z Z Z) Z (av ?_)))))
 refine aj (Ent.rowLe 23 Z (.cons (.cons .refl (.cons (.nil (sz := 1)) .nil)) .nil)) (av ?_)
 refine av ?_
 refine jf [23,5,4,2,1] Z (AOps.heap (bC O Z Z Z) Z (av ?_))
 refine j2 O Z Z (jf [7,6,5,4,2,1] Z (jn (ah (ag (j2 O Z Z (dn O Z (js O Z (jn (aw (aE (X := Nat) (fun i => ⟨[(1, b0 vs), (2, .c (.pt 2 0 0)), (4, .c (.pt 4 0 0)), (6, .c (.rs 906 0 (i + 1))), (7, .c (.rs 907 0 (i + 1))), (26, cm t.xs), (27, eI t.xs.length), (28, eI i)], [(2, .box [.d (.int .i64 t.c), .d (c7 t.xs)]), (4, .box [.d (.int .i64 0), .d .nils]), (906, .row false 2 ((⟨t.c, []⟩ :: vs.take i).map Tm.cells)), (907, aZ (1 :: t.xs.take i))]⟩) (fun i => i ≤ t.xs.length) (fun i => t.xs.length - i) 0 ((((au [2,4,23,24] (e' := [(1, _), (2, _), (4, _), (6, _), (7, _), (26, _), (27, _), (28, _)]) Z Z ⟨Z, Z, Z, Z, Z, Z, Z, Z, trivial⟩ Z).trans (ae 23 906 Z Z)).trans (ae 24 907 Z Z)).trans (Ent.to ⟨Z, Z, Z, Z, Z, Z, Z, Z, trivial⟩ Z)) ?_ (fun i hi => ?_)))))))))))
 exact dm _
 refine ag (js O Z (jn (ah (af O Z Z (fun hc29 => ?_) (fun hc29 => ?_)))))
 refine an (ah (aw (ag (js O Z (pD O Z Z (j3 O Z Z Z (jf [9,8,29,1,2,4,6,7,26,27,28] Z (bf ?_))))))))
 have hil : i < t.xs.length := by have := bp hc29; omega
 have hvl : vs.length ≤ 10 := by have := (oK hv).2; omega
 refine js O Z (ji O Z (jf [34,9,8,29,1,2,4,6,7,26,27,28] Z (AOps.heap (gg O Z Z Z Z Z Z Z Z Z (by first | omega | (simp at *; omega)) (by first | omega | (simp at *; omega)) (by first | omega | (simp at *; omega)) (by first | omega | (dsimp only; omega) | (simp only [bL] at *; omega)) (by first | omega | (simp at *; omega)) Z Z Z) Z (av ?_))))
 refine js O Z (jf [36,9,8,29,1,2,4,6,7,26,27,28] Z (jl O Z (av ?_)))
 refine jo O Z (av ?_)
 refine bf (j3 O Z Z Z (dI O Z Z (jf [40,10,36,9,8,29,1,2,4,6,7,26,27,28] Z (AOps.heap (cD (ex := [.int .i64 0]) (xs' := ((List.replicate i 0 ++ [1] : List Int)).map (fun n => [D.int .i64 n])) O Z Z Z Z Z Z Z Z Z Z Z Z Z Z kC kB) Z (av ?_)))))
 refine jn (ah (ag (j2 O Z Z (dn O Z (js O Z (jf [44,40,10,36,9,8,29,1,2,4,6,7,26,27,28] Z (jn (af O Z Z (fun hc44 => ?_) (fun hc44 => ?_)))))))))
 refine am (j2 O Z Z (pD O Z Z (js O Z (jf [48,44,40,10,36,9,8,29,1,2,4,6,7,26,27,28] Z (jo O Z (av ?_))))))
 refine jn (am (j2 O Z Z (AOps.heap (bn O Z Z Z Z Z Z Z Z Z Z Z) Z (av ?_))))
 refine jf [51,49,48,44,40,10,36,9,8,29,1,2,4,6,7,26,27,28] Z (AOps.heap (bh (own := false) (xs := ((⟨t.c, []⟩ : Tm) :: vs.take i).map Tm.cells) (ys := [Tm.cells (vs.getD i default)]) (zs := ((⟨t.c, []⟩ : Tm) :: vs.take (i + 1)).map Tm.cells) (n := i + 2) O Z Z Z Z Z Z Z Z Z Z Z Z Z Z Z Z (.row Z (by simp; omega)) (.whole Z Z (.inr ⟨Z, Z⟩)) (by simp) Z (by simp; omega) (by simp; omega) (by rw [List.take_succ_eq_append_getElem (by omega), ← List.cons_append, List.map_append, aK (by omega)]; rfl) (by simp; omega)) Z (av ?_))
 refine aj (au [2,4,52,907] (e' := [(52, _), (9, _), (7, _), (1, _), (2, _), (4, _), (26, _), (27, _), (28, _)]) Z Z ⟨Z, Z, Z, Z, Z, Z, Z, Z, Z, trivial⟩ Z) (av ?_)
 refine j2 O Z Z (jf [54,53,52,7,1,2,4,26,27,28] Z (AOps.heap (bC O Z Z Z) Z (av ?_)))
 refine jf [55,53,52,7,1,2,4,26,27,28] Z (AOps.heap (cU (zs := (1 :: t.xs.take (i + 1)).map fun n => [.int .i64 n]) (n := i + 2) O Z Z Z Z Z Z Z Z Z Z Z Z Z Z Z Z (.row Z (by simp; omega)) Z Z (by decide) Z (by simp; omega) (by simp; omega) (by rw [show t.xs.take (i + 1) = t.xs.take i ++ [t.xs.getD i default] by rw [List.take_succ_eq_append_getElem (by omega), aK (by omega)], ← List.cons_append, List.map_append]; rfl) (by simp; omega)) Z (av ?_))
 refine j2 O Z Z (jf [7,6,1,2,4,26,27,28] Z (jn (am (ji O Z (js O Z (jn ?_))))))
 refine ⟨i + 1, (((au [2,4,52,56] (e' := [(1, _), (2, _), (4, _), (6, _), (7, _), (26, _), (27, _), (28, _)]) Z Z ⟨Z, Z, Z, Z, Z, Z, Z, Z, trivial⟩ Z).trans (ae 52 906 Z Z)).trans (ae 56 907 Z Z)), by omega, by omega⟩
 exact absurd hc44 (by simp; omega)
 refine bt (ag ?_)
 have hvl : vs.length ≤ 10 := by have := (oK hv).2; omega
 obtain rfl : i = t.xs.length := by have := ch hc29; omega
 rw [List.take_length]
 refine aj (Ent.freeze 906 (e' := [(6, _), (7, _), (4, _), (2, _)]) Z (.cons Z (.c (.row Z (by simp; omega))) (fe [7,4,2] Z)) (.cons Z (.box (fk Z)) (.cons Z (.box (fk Z)) (.skip (.cons Z .row .nil))))) ?_
 refine aj (Ent.freeze 907 (e' := [(6, _), (7, _), (4, _), (2, _)]) Z (.cons Z (.keep Z) (.cons Z (.c (.row Z (by simp))) (fe [4,2] Z))) (.cons Z (.box (fk Z)) (.cons Z (.box (fk Z)) (.skip .nil)))) ?_
 refine j2 O Z Z (ak O Z Z Z Z (uy (ts := ⟨t.c, []⟩ :: vs.take t.xs.length) (ms := 1 :: t.xs) h1 h2 (tq ht hv) (by have := (Small.of ht).xs; rw [List.all_cons, this]; decide) (by simp; omega)) (ac Z) Z Z Z Z (B0 := 61000) Z Z (jf [60,6,7,4,2] Z (cK O (B0 := 62000) Z Z Z Z (vm (t := iy (⟨t.c, []⟩ :: vs.take t.xs.length) (1 :: t.xs)) h1 h2) (ac Z) Z Z Z Z Z Z (av ?_))))
 refine j2 O Z Z (jf [63,62,6,7,4,2] Z (jo O Z (av ?_)))
 refine js O Z (jf [5,6,7,4,2] Z (jr ?_))
 rw [← sj]
 refine ⟨.inl Z, _, ar, _, Z, [62000], by decide, Z, Z, Z⟩
structure Pc where
  post : D
  starts : D
  body : D
  loops : D
  behind : D
  num : List (Int × D)
abbrev aB (ps : List Pth) : B := .row true 5 (ps.map Pth.cells)
abbrev aD (ss : List Sq) : B := .row true 3 (ss.map Sq.cells)
abbrev iB (c : Pc) (g : Gs) (i j k : Nat) : B := .box [.d c.post, .d c.starts, .rs i 0 g.paths.length, .rs j 0 g.conds.length, .d (.bool g.bad), .d c.body, .d c.loops, .d c.behind, .mp k]
abbrev iW (frm : Int) (w : Pw) (i j k : Nat) : B := .box [.d (.int .i64 frm), .rs i 0 w.vars.length, .d .nils, .rs j 0 w.facts.length, .rs k 0 w.ev.length, .d (.int .i64 (w.sym : Int))]
abbrev iH (c : Pc) (g : Gs) (frm : Int) (w : Pw) : List (Nat × B) := [(0, iB c g 1 2 3), (1, aB g.paths), (2, aD g.conds), (3, aO c.num), (4, iW frm w 5 6 7), (5, aG w.vars), (6, aG w.facts), (7, aZ w.ev)]

variable {c : Pc} {g : Gs}
theorem xP {k : Int} {xs : List Int} {ok : Bool} : MQ h1 h2 161 [.c (.pt 0 0 0), (.agg [.d (.int .i64 k), .rs 4 0 xs.length]), eB ok] [(0, iB c g 1 2 3), (1, aB g.paths), (2, aD g.conds), (3, aO c.num), (4, aZ xs)] (aV (.agg [.d (.int .i64 k), .rs 4 0 xs.length]) [(0, iB c (g.flag (!ok)) 1 2 3), (1, aB (g.flag (!ok)).paths), (2, aD (g.flag (!ok)).conds), (3, aO c.num), (4, aZ xs)]) := by
 refine MC.shift 500 Z (MC.keep [500,501,502,503,504] (bs := [iB c (g.flag (!ok)) 501 502 503, aB (g.flag (!ok)).paths, aD (g.flag (!ok)).conds, aO c.num, aZ xs]) Z Z (jH 13 [500,501,502,503,504] h1 h2 Tryz.func161 Z Z Z Z fun O hF => ?_))
 refine bQ ?_
 refine ag (jx O Z (av ?_))
 refine jf [4,0,2] Z (jl O Z (av ?_))
 refine jn (ah (ag (j2 O Z Z (jf [8,6,4,0] Z (jn (af O Z Z (fun hc8 => ?_) (fun hc8 => ?_)))))))
 refine am (j3 O Z Z Z (jf [11,6,4] Z (jo O Z (av ?_))))
 refine bf (js O Z (jf [12,11,6] Z (jo O Z (av ?_))))
 refine jr ?_
 have hok : ok = false := by simpa using hc8
 subst hok
 rw [show g.flag (!false) = ⟨g.paths, g.conds, true⟩ from im]
 refine ⟨.inl Z, _, ar, _, Z, Z, Z⟩
 refine an (ag (js O Z (jf [12,6,0] Z (jo O Z (av ?_)))))
 refine jr ?_
 have hok : ok = true := by simpa using hc8
 subst hok
 rw [show g.flag (!true) = g from fg]
 refine ⟨.inl Z, _, ar, _, Z, Z, Z⟩
variable {frm : Int} {w : Pw}
theorem j6 (ht : t.ok = true) (hv : eX w.vars 10 = true) (hle : t.xs.length ≤ w.vars.length) : MQ h1 h2 114 [.c (.pt 0 0 0), .c (.pt 4 0 0), cP t] (iH c g frm w) (aV (cP (aJ t w.vars).1) (iH c (aS w t g) frm w)) := by
 refine MC.shift 500 Z (MC.keep [500,501,502,503,504,505,506,507] (bs := [iB c (aS w t g) 501 502 503, aB (aS w t g).paths, aD (aS w t g).conds, aO c.num, iW frm w 505 506 507, aG w.vars, aG w.facts, aZ w.ev]) Z Z (jH 17 [500,501,502,503,504,505,506,507] h1 h2 Tryz.func114 Z Z Z Z fun O hF => ?_))
 refine bQ ?_
 refine ag (jx O Z (av ?_))
 refine aj (Ent.freeze 5 (e' := [(5, _), (0, _), (1, _)]) Z (.cons Z (.c (.box (cs := Tm.cells t) Z (aI Z))) (fe [0,1] Z)) (.skip (.cons Z (.box (fk Z)) (.cons Z .row (.cons Z .row (.cons Z .map (.cons Z (.box (fk Z)) (.cons Z .row (.cons Z .row (.cons Z .row .nil)))))))))) ?_
 refine av ?_
 refine jl O Z (av ?_)
 refine jn (ah (gv O [_,_,_,_,_,_,_,_,_,_,_] [pn [] 0 1, pn [] 0 0, pn [] 0 0, pn [2] 0 0, pn [2,3] 0 0, pn [2,3,4] 0 0, pe (rg 1 5) 0, pn (rg 1 6) 1 1, pn (rg 1 6) 1 1, pe (rg 0 9) 1, pe (rg 0 10) 2] [6,9,10] [_,_,_,_] (ai (kc O Z (V O Z)) (kc O Z (kc O Z (kc O Z (kc O Z (kc O Z (ai (c8 O (B0 := 14000) Z Z Z Z (vn (t := t) (vs := w.vars) h1 h2 ht hv hle) (.cons (.agg (aI Z)) (.cons (.c (.whole Z (cY _).symm)) .nil)) Z Z Z Z Z) (kc O Z (kc O Z (ai (bE O [500,501,502,503,14000] (bin := [iB c g 1 2 3, aB g.paths, aD g.conds, aO c.num, aZ (aJ t w.vars).1.xs]) Z Z Z Z (xP (c := c) (g := g) (k := (aJ t w.vars).1.c) (xs := (aJ t w.vars).1.xs) (ok := (aJ t w.vars).2) h1 h2) Z Z Z Z Z (B0 := 17000) Z Z Z Z Z Z) (ai (eS O Z Z Z) trivial))))))))))) ?_))
 refine jw [6] Z (bQ ?_)
 refine fK ?_
 refine ⟨.inl Z, _, Ent.freeze 14000 (e' := [(6, _)]) Z (fe [6] Z) (.cons Z (.box (.cons (.keep Z) (.cons (.row Z (cY _).symm) .nil))) (.cons Z (.box (fk Z)) (.cons Z .row (.cons Z .row (.cons Z .row (.cons Z (.box (fk Z)) (.cons Z .row (.cons Z .row (.cons Z .map (.skip .nil)))))))))), _, Z, Z, Z⟩
abbrev zj (c : Pc) (g : Gs) (frm : Int) (w : Pw) : List (Nat × B) := [(0, iB c g 1 8 3), (1, aB g.paths), (3, aO c.num), (4, iW frm w 5 6 7), (5, aG w.vars), (6, aG w.facts), (7, aZ w.ev), (8, aD g.conds)]
def cZ (w : Pw) (t : Tm) (g : Gs) : Gs := (g.goal w t).flag (!t.ok)
theorem pX (hg : g.conds.length + 1 ≤ L) : MQ h1 h2 157 [.c (.pt 0 0 0), .c (.pt 4 0 0), cP t] (iH c g frm w) (aV (.tup []) (zj c (cZ w t g) frm w)) := by
 refine MC.shift 500 Z (MC.keep [500,501,503,504,505,506,507,508] (bs := [iB c (cZ w t g) 501 508 503, aB (cZ w t g).paths, aO c.num, iW frm w 505 506 507, aG w.vars, aG w.facts, aZ w.ev, aD (cZ w t g).conds]) Z Z (jH 31 [500,501,502,503,504,505,506,507] h1 h2 Tryz.func157 Z Z Z Z fun O hF => ?_))
 refine bQ ?_
 refine ag (jx O Z (av ?_))
 refine aj (Ent.freeze 5 (e' := [(5, _), (0, _), (1, _)]) Z (.cons Z (.c (.box (cs := Tm.cells t) Z (aI Z))) (fe [0,1] Z)) (.skip (.cons Z (.box (fk Z)) (.cons Z .row (.cons Z .row (.cons Z .map (.cons Z (.box (fk Z)) (.cons Z .row (.cons Z .row (.cons Z .row .nil)))))))))) ?_
 refine av ?_
 refine jn (ah (pE O [_,_,_,_,_,_,_,_,_,_] [pn [] 0 0, pn [0] 0 0, pn [0,1] 0 0, pn [0,1,2] 0 0, pe [0,1,2,3] 0, pn [] 0 1, pe [0,1,2,3,4,5] 1, pn [0,1,2,3,4,5,6] 2 2, pn [] 0 2, pe [0,1,2,3,4,5,6,7,8] 2] [4,6,9] 8 6 (.box [.d .nils, .d (.int .i64 0), .d .nils]) [_,_,_] [_] [[], [], []] (kf O Z Z Z (kf O Z Z Z (kf O Z Z Z (kf O Z Z Z (ai (ai (ay (aH (c8 O (B0 := 12000) Z Z Z Z (tc (ts := w.facts) h1 h2) (.cons (.c (.whole Z (cY _).symm)) .nil) Z Z Z Z Z)) (aH (c8 O (B0 := 12000) Z Z Z Z (tc (ts := w.facts) h1 h2) (.cons (.c (.whole Z (cY _).symm)) .nil) Z Z Z Z Z))) Z) (ai (kf O Z Z Z (kg O Z Z Z)) (ai (ai (ay (aH (c8 O (B0 := 14000) Z Z Z Z (pQ (t := t) h1 h2) (ac Z) Z Z Z Z Z)) (aH (c8 O (B0 := 14000) Z Z Z Z (pQ (t := t) h1 h2) (ac Z) Z Z Z Z Z))) Z) (kf O Z Z Z (ai (ai (ai (aH (Eff.alloc O Z Z Z Z Z Z)) Z) (ai (ai (aH (Eff.alloc O Z Z Z Z Z Z)) Z) (ai (aH (Eff.alloc O Z Z Z Z Z Z)) Z))) (ai (ai (ay trivial (aH (eS O Z Z Z))) Z) trivial)))))))))) ?_))
 refine jw [6,5,0] Z (bQ ?_)
 refine ah (ag (js O Z (aA O Z Z Z Z (nA (t := t) h1 h2) (ac Z) Z Z Z Z Z (B0 := 17000) Z (js O Z (jf [17,6,5,0] Z (jn (af O Z Z (fun hc17 => ?_) (fun hc17 => ?_))))))))
 refine am (j3 O Z Z Z (jf [20,6,5,0] Z (jo O Z (av ?_))))
 refine jn (jG O [_,_,_,_,_,_,_,_,_,_,_] [pn [] 0 2, pn [] 0 1, pn [1] 0 1, pn [1,2] 0 1, pn [1,2,3] 0 1, pn [] 0 0, pe [5] 0, pe (rg 1 6) 1, pn (rg 0 8) 2 2, pn (rg 0 9) 2 2, pe (rg 0 10) 2] [6,7,10] [_,_,_,_] [[12000,14000], [502,27], []] (ai (ka O Z Z (ka O Z Z (kw O Z Z))) (ai (ka O Z Z (kw O Z Z)) (ai (ka O Z Z (kw O Z Z)) (ai (ka O Z Z (kw O Z Z)) (ai (ka O Z Z (kw O Z Z)) (ka O Z Z (ai (ai (gX [12000,14000] (ds := Sq.cells (⟨w.facts, t⟩ : Sq)) O Z Z Z Z Z Z Z Z Z Z Z Z (fun e => .rs Z (cY _).symm (.d Z (.rs Z (cY _).symm .nil))) Z Z) Z) (ai (ai (gY (xs := g.conds.map Sq.cells) (ys := [Sq.cells (⟨w.facts, t⟩ : Sq)]) (zs := (g.conds ++ [(⟨w.facts, t⟩ : Sq)]).map Sq.cells) (n := (g.conds ++ [(⟨w.facts, t⟩ : Sq)]).length) O Z Z Z Z Z Z Z Z Z Z Z Z Z Z Z Z (.row Z (cY _).symm) Z Z (by decide) Z (by simp; omega) (by simp; omega) (by simp) (by simp) Z) Z) (ka O Z Z (ka O Z Z (ai (ai (aH (eS O Z Z Z)) Z) trivial))))))))))) ?_)
 show _ ∧ _
 have hok : t.ok = false := by simpa using hc17
 rw [show cZ w t g = ⟨g.paths, g.conds ++ [(⟨w.facts, t⟩ : Sq)], true⟩ by rw [cZ, hok]; simp [Gs.flag, Gs.goal]]
 refine ⟨.inr Z, _, ae 28 508 Z Z, _, Z, Z, Z⟩
 refine an (jw [6,5,0] Z (jG O [_,_,_,_,_,_,_,_,_,_,_] [pn [] 0 2, pn [] 0 1, pn [1] 0 1, pn [1,2] 0 1, pn [1,2,3] 0 1, pn [] 0 0, pe [5] 0, pe (rg 1 6) 1, pn (rg 0 8) 2 2, pn (rg 0 9) 2 2, pe (rg 0 10) 2] [6,7,10] [_,_,_,_] [[12000,14000], [502,27], []] (ai (ka O Z Z (ka O Z Z (kw O Z Z))) (ai (ka O Z Z (kw O Z Z)) (ai (ka O Z Z (kw O Z Z)) (ai (ka O Z Z (kw O Z Z)) (ai (ka O Z Z (kw O Z Z)) (ka O Z Z (ai (ai (gX [12000,14000] (ds := Sq.cells (⟨w.facts, t⟩ : Sq)) O Z Z Z Z Z Z Z Z Z Z Z Z (fun e => .rs Z (cY _).symm (.d Z (.rs Z (cY _).symm .nil))) Z Z) Z) (ai (ai (gY (xs := g.conds.map Sq.cells) (ys := [Sq.cells (⟨w.facts, t⟩ : Sq)]) (zs := (g.conds ++ [(⟨w.facts, t⟩ : Sq)]).map Sq.cells) (n := (g.conds ++ [(⟨w.facts, t⟩ : Sq)]).length) O Z Z Z Z Z Z Z Z Z Z Z Z Z Z Z Z (.row Z (cY _).symm) Z Z (by decide) Z (by simp; omega) (by simp; omega) (by simp) (by simp) Z) Z) (ka O Z Z (ka O Z Z (ai (ai (aH (eS O Z Z Z)) Z) trivial))))))))))) ?_))
 show _ ∧ _
 have hok : t.ok = true := by simpa using hc17
 rw [show cZ w t g = ⟨g.paths, g.conds ++ [(⟨w.facts, t⟩ : Sq)], g.bad⟩ by rw [cZ, hok]; simp [Gs.flag, Gs.goal]]
 refine ⟨.inr Z, _, ae 28 508 Z Z, _, Z, Z, Z⟩
abbrev zi (c : Pc) (g : Gs) (frm : Int) (w : Pw) : List (Nat × B) := [(0, iB c g 1 2 3), (1, aB g.paths), (2, aD g.conds), (3, aO c.num), (4, iW frm w 5 9 7), (5, aG w.vars), (7, aZ w.ev), (9, aG w.facts)]
theorem oV {g : Gs} : g.flag true = ⟨g.paths, g.conds, true⟩ := by simp [Gs.flag]
theorem kj {g : Gs} : g.flag false = g := by simp [Gs.flag]
theorem pW (hl : w.facts.length ≤ 1000) : MQ h1 h2 158 [.c (.pt 0 0 0), .c (.pt 4 0 0), cP t] (iH c g frm w) (aV (.tup []) (zi c (g.flag (w.fact t).long) frm (w.fact t))) := by
 refine MC.shift 500 Z (MC.keep [500,501,502,503,504,505,507,509] (bs := [iB c (g.flag (w.fact t).long) 501 502 503, aB (g.flag (w.fact t).long).paths, aD (g.flag (w.fact t).long).conds, aO c.num, iW frm (w.fact t) 505 509 507, aG (w.fact t).vars, aZ (w.fact t).ev, aG (w.fact t).facts]) Z Z (jH 25 [500,501,502,503,504,505,506,507] h1 h2 Tryz.func158 Z Z Z Z fun O hF => ?_))
 refine bQ ?_
 refine ag (jx O Z (av ?_))
 refine aj (Ent.freeze 5 (e' := [(5, _), (0, _), (1, _)]) Z (.cons Z (.c (.box (cs := Tm.cells t) Z (aI Z))) (fe [0,1] Z)) (.skip (.cons Z (.box (fk Z)) (.cons Z .row (.cons Z .row (.cons Z .map (.cons Z (.box (fk Z)) (.cons Z .row (.cons Z .row (.cons Z .row .nil)))))))))) ?_
 refine av ?_
 refine jn (ah (pE O [_,_,_,_,_,_,_,_,_,_,_] [pn [] 0 1, pn [] 0 0, pn [1] 0 0, pn [1,2] 0 0, pn [1,2,3] 0 0, pn [] 0 0, pn [5] 0 0, pe [1,2,3,4,5,6] 0, pn [0,1,2,3,4,5,6,7] 1 1, pn [0,1,2,3,4,5,6,7,8] 1 1, pe [0,1,2,3,4,5,6,7,8,9] 1] [7,10] 6 12 (.row false 2 [Tm.cells t]) [_] [_,_] [[506], []] (ai (kf O Z Z Z (kg O Z Z Z)) (kf O Z Z Z (kf O Z Z Z (kf O Z Z Z (kf O Z Z Z (kf O Z Z Z (ai (ai (aH (du O Z Z Z Z Z Z Z Z Z Z Z Z Z Z)) Z) (ai (ai (ay trivial (ci (own := false) (xs := w.facts.map Tm.cells) (ys := [Tm.cells t]) (zs := ((w.facts ++ [t])).map Tm.cells) (n := (w.facts ++ [t]).length) O Z Z Z Z Z Z Z Z Z Z Z Z Z Z Z Z (.row Z (cY _).symm) (.whole Z Z (.inr ⟨Z, Z⟩)) (by simp) Z (by simp; omega) (by simp; omega) (by simp) (by simp) Z)) Z) (ai (ai (ay trivial (V O Z)) Z) (ai (ai (ay trivial (V O Z)) Z) (ai (ai (ay trivial (aH (eS O Z Z Z))) Z) trivial))))))))))) ?_))
 refine jw [0,1] Z (bQ ?_)
 refine ag (j4 O Z Z Z Z (aa (dw O Z Z (by simp only [dk, iw]; omega)) Z Z Z (js O Z (jf [21,0,1] Z (jn (af O Z Z (fun hc21 => ?_) (fun hc21 => ?_)))))))
 refine am (j3 O Z Z Z (jf [24,1] Z (jo O Z (av ?_))))
 refine jn ?_
 show _ ∧ _
 have hlo : (w.fact t).long = true := decide_eq_true (by show 12 < (w.facts ++ [t]).length; have := bp hc21; omega)
 rw [hlo, oV]
 refine ⟨.inr Z, _, ae 13 509 Z Z, _, Z, Z, Z⟩
 refine an ?_
 show _ ∧ _
 have hlo : (w.fact t).long = false := decide_eq_false (by show ¬ 12 < (w.facts ++ [t]).length; have := ch hc21; omega)
 rw [hlo, kj]
 refine ⟨.inr Z, _, ae 13 509 Z Z, _, Z, Z, Z⟩
def bF : cB := fun t => (iy [⟨7, []⟩, t] [1, -1], (iy [⟨7, []⟩, t] [1, -1]).ok)
theorem qH {w : Pw} {t : Tm} {g : Gs} (ht : t.ok = true) : cZ w (bF t).1 (cZ w t g) = j5 bF w t g := by
 simp only [cZ, j5, bF, ht, Gs.goal, Gs.flag, Bool.not_true, Bool.or_false]
theorem uF {t : Tm} (ht : t.ok = true) : CtxOk [⟨7, []⟩, t] := by
 refine ⟨fun u hu => ?_, by simp⟩
 rcases List.mem_cons.1 hu with rfl | hu
 decide
 rcases List.mem_cons.1 hu with rfl | hu
 exact ht
 cases hu
theorem ug (ht : t.ok = true) (hg : g.conds.length + 2 ≤ L) : MQ h1 h2 155 [.c (.pt 0 0 0), .c (.pt 4 0 0), cP t] (iH c g frm w) (aV (.tup []) (zj c (j5 bF w t g) frm w)) := by
 refine MC.shift 500 Z (MC.keep [500,501,503,504,505,506,507,508] (bs := [iB c (j5 bF w t g) 501 508 503, aB (j5 bF w t g).paths, aO c.num, iW frm w 505 506 507, aG w.vars, aG w.facts, aZ w.ev, aD (j5 bF w t g).conds]) Z Z (jH 20 [500,501,502,503,504,505,506,507] h1 h2 Tryz.func155 Z Z Z Z fun O hF => ?_))
 refine bQ ?_
 refine ag (jx O Z (av ?_))
 refine aj (Ent.freeze 5 (e' := [(5, _), (0, _), (1, _)]) Z (.cons Z (.c (.box (cs := Tm.cells t) Z (aI Z))) (fe [0,1] Z)) (.skip (.cons Z (.box (fk Z)) (.cons Z .row (.cons Z .row (.cons Z .map (.cons Z (.box (fk Z)) (.cons Z .row (.cons Z .row (.cons Z .row .nil)))))))))) ?_
 refine av ?_
 refine bf (j3 O Z Z Z (aq O [500,501,502,503,504,505,506,507] (bin := [iB c g 1 2 3, aB g.paths, aD g.conds, aO c.num, iW frm w 5 6 7, aG w.vars, aG w.facts, aZ w.ev]) Z Z Z Z (pX (c := c) (g := g) (frm := frm) (w := w) (t := t) h1 h2 (by omega)) Z Z Z Z Z Z (B0 := 11000) Z Z (av ?_)))
 refine jf [5,0,1] Z (bf (j2 O Z Z (AOps.heap (bn O Z Z Z Z Z Z Z Z Z Z Z) Z (av ?_))))
 refine aj (Ent.rowLe 13 Z (.cons (.cons .refl (.cons (.nil (sz := 1)) .nil)) (.cons (.cons .refl (.cons .refl .nil)) .nil))) (av ?_)
 refine av ?_
 refine jf [13,5,0,1] Z (AOps.heap (bC O Z Z Z) Z (av ?_))
 refine aj (Ent.freeze 13 (e' := [(14, _), (13, _), (0, _), (1, _)]) Z (.cons Z (.keep Z) (.cons Z (.c (.row Z Z)) (fe [0,1] Z))) (.skip (.cons Z .row (.cons Z (.box (fk Z)) (.cons Z .row (.cons Z .map (.cons Z (.box (fk Z)) (.cons Z .row (.cons Z .row (.cons Z .row (.cons Z .row .nil))))))))))) ?_
 refine aj (Ent.freeze 14 (e' := [(14, _), (13, _), (0, _), (1, _)]) Z (.cons Z (.c (.row Z Z)) (fe [13,0,1] Z)) (.skip (.cons Z (.box (fk Z)) (.cons Z .row (.cons Z .map (.cons Z (.box (fk Z)) (.cons Z .row (.cons Z .row (.cons Z .row (.cons Z .row .nil)))))))))) ?_
 refine av ?_
 refine ak O Z Z Z Z (uy (ts := [⟨7, []⟩, t]) (ms := [1, -1]) h1 h2 (uF ht) (by decide) (cz _)) (ac Z) Z Z Z Z (B0 := 16000) Z Z (jf [15,0,1] Z (jl O Z (av ?_)))
 refine jo O Z (av ?_)
 refine jn (am (j3 O Z Z Z (aq O [500,501,11008,503,504,505,506,507] (bin := [iB c (cZ w t g) 1 2 3, aB (cZ w t g).paths, aD (cZ w t g).conds, aO c.num, iW frm w 5 6 7, aG w.vars, aG w.facts, aZ w.ev]) Z Z Z Z (pX (c := c) (g := (cZ w t g)) (frm := frm) (w := w) (t := (bF t).1) h1 h2 (by simp only [cZ, Gs.flag, Gs.goal, dk, iw]; omega)) Z Z Z Z Z Z (B0 := 20000) Z Z (av ?_))))
 refine jf [6,15,0,1] Z (jn ?_)
 show _ ∧ _
 rw [← qH ht]
 refine ⟨.inr Z, _, ae 20008 508 Z Z, _, Z, Z, Z⟩
abbrev iHE (c : Pc) (g : Gs) (frm : Int) (w : Pw) : List (Nat × B) := [(0, iB c g 9 8 3), (3, aO c.num), (4, iW frm w 5 6 7), (5, aG w.vars), (6, aG w.facts), (7, aZ w.ev), (8, aD g.conds), (9, aB g.paths)]
theorem qx {w : Pw} {t : Tm} {g : Gs} : cZ w (aJ t w.vars).1 (aS w t g) = bg w g t := by
 simp only [cZ, eE, bg, Gs.flag, Bool.not_true, Bool.or_false]
theorem mP {w : Pw} (hw : CtxOk w.vars) (hv : w.vars.length = 4) : eX w.vars 10 = true := by
 unfold eX
 rw [List.all_eq_true.2 hw.ok, decide_eq_true (by omega)]; rfl
theorem rI {to : Int} {fs : List Tm} (hw : CtxOk w.vars) (hv : w.vars.length = 4) (hf : TsOk fs) (hg : g.conds.length + fs.length ≤ L) (hp : g.paths.length + 1 ≤ L) : MQ h1 h2 154 [.c (.pt 0 0 0), .c (.pt 4 0 0), eI to, b0 fs] (iH c g frm w) (aV (.tup []) (iHE c (cO frm w to fs g) frm w)) := by
 refine MC.shift 500 Z (MC.keep [500,503,504,505,506,507,508,509] (bs := [iB c (cO frm w to fs g) 509 508 503, aO c.num, iW frm w 505 506 507, aG w.vars, aG w.facts, aZ w.ev, aD (cO frm w to fs g).conds, aB (cO frm w to fs g).paths]) Z Z (jH 63 [500,501,502,503,504,505,506,507] h1 h2 Tryz.func154 Z Z Z Z fun O hF => ?_))
 refine bQ ?_
 have hpe : (fs.foldl (bg w) g).paths.length = g.paths.length := congrArg List.length ea
 have hva := mP hw hv
 have hll : fs.length ≤ L := by omega
 refine ah (ag (js O Z (dn O Z (js O Z (jn (aw (aE (X := Nat) (fun i => ⟨[(0, .c (.pt 500 0 0)), (1, .c (.pt 504 0 0)), (2, eI to), (10, b0 fs), (11, eI fs.length), (12, eI i)], [(500, iB c ((fs.take i).foldl (bg w) g) 501 902 503), (501, aB ((fs.take i).foldl (bg w) g).paths), (503, aO c.num), (504, iW frm w 505 506 507), (505, aG w.vars), (506, aG w.facts), (507, aZ w.ev), (902, aD ((fs.take i).foldl (bg w) g).conds)]⟩) (fun i => i ≤ fs.length) (fun i => fs.length - i) 0 (((au [500,501,503,504,505,506,507,502] (e' := [(0, _), (1, _), (2, _), (10, _), (11, _), (12, _)]) Z Z ⟨Z, Z, Z, Z, Z, Z, trivial⟩ Z).trans (ae 502 902 Z Z)).trans (Ent.to ⟨Z, Z, Z, Z, Z, Z, trivial⟩ Z)) ?_ (fun i hi => ?_))))))))
 exact dm _
 refine ag (js O Z (jn (ah (af O Z Z (fun hc13 => ?_) (fun hc13 => ?_)))))
 refine an (ah (aw (ag (pD O Z Z (js O Z (jf [15,13,0,1,2,10,11,12] Z (jl O Z (av ?_))))))))
 refine jo O Z (av ?_)
 refine jn (am (j4 O Z Z Z Z (js O Z ?_)))
 have hil : i < fs.length := by have := bp hc13; omega
 have hfi := hf.get hil
 have hci := iQ (w := w) (fs := fs.take i) (g := g)
 rw [List.length_take, Nat.min_eq_left (by omega)] at hci
 refine aq O [500,501,902,503,504,505,506,507] (bin := [iB c ((fs.take i).foldl (bg w) g) 1 2 3, aB ((fs.take i).foldl (bg w) g).paths, aD ((fs.take i).foldl (bg w) g).conds, aO c.num, iW frm w 5 6 7, aG w.vars, aG w.facts, aZ w.ev]) Z Z Z Z (j6 (c := c) (g := ((fs.take i).foldl (bg w) g)) (frm := frm) (w := w) (t := (fs.getD i default)) h1 h2 hfi.1 hva (by omega)) Z Z Z Z Z Z (B0 := 22000) Z Z (av ?_)
 refine jf [21,17,16,9,15,13,0,1,2,10,11,12] Z (aq O [500,501,902,503,504,505,506,507] (bin := [iB c (aS w (fs.getD i default) ((fs.take i).foldl (bg w) g)) 1 2 3, aB (aS w (fs.getD i default) ((fs.take i).foldl (bg w) g)).paths, aD (aS w (fs.getD i default) ((fs.take i).foldl (bg w) g)).conds, aO c.num, iW frm w 5 6 7, aG w.vars, aG w.facts, aZ w.ev]) Z Z Z Z (pX (c := c) (g := (aS w (fs.getD i default) ((fs.take i).foldl (bg w) g))) (frm := frm) (w := w) (t := (aJ (fs.getD i default) w.vars).1) h1 h2 (show ((fs.take i).foldl (bg w) g).conds.length + 1 ≤ L by omega)) Z Z Z Z Z Z (B0 := 23000) Z Z (av ?_))
 refine jf [9,15,13,0,1,2,10,11,12] Z (jn (am (ji O Z (js O Z (jn ?_)))))
 refine ⟨i + 1, ((au [500,501,503,504,505,506,507,23008] (e' := [(0, _), (1, _), (2, _), (10, _), (11, _), (12, _)]) Z Z ⟨Z, Z, Z, Z, Z, Z, trivial⟩ Z).trans (ae 23008 902 Z Z)).trans (Ent.to ⟨Z, Z, Z, Z, Z, Z, trivial⟩ (by rw [mi hil, ← qx]; rfl)), by omega, by omega⟩
 refine bt (ah ?_)
 obtain rfl : i = fs.length := by have := ch hc13; omega
 rw [List.take_length]
 refine jG O [_,_,_,_,_,_,_,_,_,_,_,_,_,_,_,_,_,_,_,_,_,_,_,_,_,_,_,_,_,_,_] [pn [] 0 5, pn [] 0 4, pn [1] 0 4, pn [1,2] 0 4, pn [1,2,3] 0 4, pn [] 0 3, pn [5] 0 3, pn [5,6] 0 3, pn [5,6,7] 0 3, pn [] 0 3, pn [] 0 0, pn [10] 0 0, pn [10,11] 0 0, pn [10,11,12] 0 0, pe (rg 10 4) 0, pn [] 0 1, pn [15] 0 1, pn [15,16] 0 1, pn [15,16,17] 0 1, pe (rg 10 9) 1, pn [] 0 2, pn [20] 0 2, pn [20,21] 0 2, pn [20,21,22] 0 2, pe (rg 10 14) 2, pn (rg 5 20) 3 3, pe (rg 5 21) 3, pe (rg 1 26) 4, pn (rg 0 28) 5 5, pn (rg 0 29) 5 5, pe (rg 0 30) 5] [14,19,24,26,27,30] [_,_,_,_,_,_,_] [[], [], [], [39000,44000,49000], [501,50], []] (ai (ka O Z Z (ka O Z Z (ka O Z Z (ka O Z Z (ka O Z Z (kw O Z Z)))))) (ai (ka O Z Z (ka O Z Z (ka O Z Z (ka O Z Z (kw O Z Z))))) (ai (ka O Z Z (ka O Z Z (ka O Z Z (ka O Z Z (kw O Z Z))))) (ai (ka O Z Z (ka O Z Z (ka O Z Z (ka O Z Z (kw O Z Z))))) (ai (ka O Z Z (ka O Z Z (ka O Z Z (ka O Z Z (kw O Z Z))))) (ai (ka O Z Z (ka O Z Z (ka O Z Z (kw O Z Z)))) (ai (ka O Z Z (ka O Z Z (ka O Z Z (kw O Z Z)))) (ai (ka O Z Z (ka O Z Z (ka O Z Z (kw O Z Z)))) (ai (ka O Z Z (ka O Z Z (ka O Z Z (kw O Z Z)))) (ai (ka O Z Z (ka O Z Z (ka O Z Z (kw O Z Z)))) (ka O Z Z (ka O Z Z (ka O Z Z (ka O Z Z (ai (ai (aH (c8 O (B0 := 39000) Z Z Z Z (tc (ts := w.facts) h1 h2) (.cons (.c (.whole Z (cY _).symm)) .nil) Z Z Z Z Z)) Z) (ai (ka O Z Z (kw O Z Z)) (ai (ka O Z Z (kw O Z Z)) (ai (ka O Z Z (kw O Z Z)) (ai (ka O Z Z (kw O Z Z)) (ai (ai (aH (c8 O (B0 := 44000) Z Z Z Z (tc (ts := w.vars) h1 h2) (.cons (.c (.whole Z (cY _).symm)) .nil) Z Z Z Z Z)) Z) (ai (ka O Z Z (ka O Z Z (kw O Z Z))) (ai (ka O Z Z (ka O Z Z (kw O Z Z))) (ai (ka O Z Z (ka O Z Z (kw O Z Z))) (ai (ka O Z Z (ka O Z Z (kw O Z Z))) (ai (ai (aH (c8 O (B0 := 49000) Z Z Z Z (uz (xs := w.ev) h1 h2) (.cons (.c (.whole Z (cY _).symm)) .nil) Z Z Z Z Z)) Z) (ka O Z Z (ai (ai (gX [39000,44000,49000] (ds := Pth.cells (⟨frm, to, w.facts, w.vars, w.ev⟩ : Pth)) O Z Z Z Z Z Z Z Z Z Z Z Z (fun e => .d Z (.d Z (.rs Z (cY _).symm (.rs Z (cY _).symm (.rs Z (cY _).symm .nil))))) Z Z) Z) (ai (ai (gY (xs := (fs.foldl (bg w) g).paths.map Pth.cells) (ys := [Pth.cells (⟨frm, to, w.facts, w.vars, w.ev⟩ : Pth)]) (zs := ((fs.foldl (bg w) g).paths ++ [(⟨frm, to, w.facts, w.vars, w.ev⟩ : Pth)]).map Pth.cells) (n := ((fs.foldl (bg w) g).paths ++ [(⟨frm, to, w.facts, w.vars, w.ev⟩ : Pth)]).length) O Z Z Z Z Z Z Z Z Z Z Z Z Z Z Z Z (.row Z (cY _).symm) Z Z (by decide) Z (by simp; omega) (by simp; omega) (by simp) (by simp) Z) Z) (ka O Z Z (ka O Z Z (ai (ai (aH (eS O Z Z Z)) Z) trivial))))))))))))))))))))))))))))))) ?_
 refine jw [13,0,1,2,10,11,12] Z (bQ ?_)
 refine ag (j4 O Z Z Z Z (aa (dw O Z Z (by simp only [dk, iw]; omega)) Z Z Z (js O Z (jf [59,13,0,1,2,10,11,12] Z (jn (af O Z Z (fun hc59 => ?_) (fun hc59 => ?_)))))))
 refine am (j3 O Z Z Z (jf [62,59,13,0,1,2,10,11,12] Z (jo O Z (av ?_))))
 refine jn ?_
 show _ ∧ _
 have hlo : decide (200 < (fs.foldl (bg w) g).paths.length + 1) = true := decide_eq_true (by show 200 < (fs.foldl (bg w) g).paths.length + 1; have := bp hc59; rw [dk, iw] at this; omega)
 rw [show (cO frm w to fs g) = ⟨(fs.foldl (bg w) g).paths ++ [(⟨frm, to, w.facts, w.vars, w.ev⟩ : Pth)], (fs.foldl (bg w) g).conds, true⟩ by unfold cO fT; rw [hlo]; simp]
 refine ⟨.inr Z, _, (ae 51 509 Z Z).trans (ae 902 508 Z Z), _, Z, Z, Z⟩
 refine an ?_
 show _ ∧ _
 have hlo : decide (200 < (fs.foldl (bg w) g).paths.length + 1) = false := decide_eq_false (by show ¬ 200 < (fs.foldl (bg w) g).paths.length + 1; have := ch hc59; rw [dk, iw] at this; omega)
 rw [show (cO frm w to fs g) = ⟨(fs.foldl (bg w) g).paths ++ [(⟨frm, to, w.facts, w.vars, w.ev⟩ : Pth)], (fs.foldl (bg w) g).conds, (fs.foldl (bg w) g).bad⟩ by unfold cO fT; rw [hlo]; simp]
 refine ⟨.inr Z, _, (ae 51 509 Z Z).trans (ae 902 508 Z Z), _, Z, Z, Z⟩
theorem vp (hs : w.sym = 10) : MQ h1 h2 156 [.c (.pt 0 0 0), .c (.pt 4 0 0)] (iH c g frm w) (aV (.agg [.d (.int .i64 0), .d .nils]) (iH c (⟨g.paths, g.conds, true⟩ : Gs) frm w)) := by
 refine MC.shift 500 Z (MC.keep [500,501,502,503,504,505,506,507] (bs := [iB c (⟨g.paths, g.conds, true⟩ : Gs) 501 502 503, aB (⟨g.paths, g.conds, true⟩ : Gs).paths, aD (⟨g.paths, g.conds, true⟩ : Gs).conds, aO c.num, iW frm w 505 506 507, aG w.vars, aG w.facts, aZ w.ev]) Z Z (jH 27 [500,501,502,503,504,505,506,507] h1 h2 Tryz.func156 Z Z Z Z fun O hF => ?_))
 refine bQ ?_
 refine ag (jl O Z (av ?_))
 refine jn (ah (ag (j4 O Z Z Z Z (js O Z (jf [9,4,0,1] Z (jn (af O Z Z (fun hc9 => ?_) (fun hc9 => ?_))))))))
 refine ag (j3 O Z Z Z (jf [12,4,1] Z (jo O Z (av ?_))))
 refine bf (js O Z (jo O Z (av ?_)))
 refine jr ?_
 refine ⟨.inl Z, _, ar, _, Z, Z, Z⟩
 exact absurd (ch hc9) (by omega)
theorem xS (hs : w.sym < 10) : MQ h1 h2 156 [.c (.pt 0 0 0), .c (.pt 4 0 0)] (iH c g frm w) (aV (cP (jI w.sym)) (iH c g frm (⟨w.vars, w.facts, w.ev, w.sym + 1⟩ : Pw))) := by
 refine MC.shift 500 Z (MC.keep [500,501,502,503,504,505,506,507] (bs := [iB c g 501 502 503, aB g.paths, aD g.conds, aO c.num, iW frm (⟨w.vars, w.facts, w.ev, w.sym + 1⟩ : Pw) 505 506 507, aG (⟨w.vars, w.facts, w.ev, w.sym + 1⟩ : Pw).vars, aG (⟨w.vars, w.facts, w.ev, w.sym + 1⟩ : Pw).facts, aZ (⟨w.vars, w.facts, w.ev, w.sym + 1⟩ : Pw).ev]) Z Z (jH 27 [500,501,502,503,504,505,506,507] h1 h2 Tryz.func156 Z Z Z Z fun O hF => ?_))
 refine bQ ?_
 refine ag (jl O Z (av ?_))
 refine jn (ah (ag (j4 O Z Z Z Z (js O Z (jf [9,4,0,1] Z (jn (af O Z Z (fun hc9 => ?_) (fun hc9 => ?_))))))))
 exact absurd (bp hc9) (by omega)
 refine an (ag (j4 O Z Z Z Z (aa ((vF O Z).cast (v' := eI ((w.sym + 1 : Nat) : Int)) (congrArg eI (by omega))) Z Z Z (j2 O Z Z (jf [20,18,4,0,1] Z (jo O Z (av ?_)))))))
 refine jf [4,0,1] Z (bf (j4 O Z Z Z Z (aa ((vF O Z).cast (v' := eI ((w.sym : Nat) : Int)) (congrArg eI (by omega))) Z Z Z (jf [25,4,0,1] Z (ak O Z Z Z Z (uh (k := w.sym) h1 h2 hs) (ac Z) Z Z Z Z (B0 := 27000) Z Z (jf [26,4,0,1] Z (jo O Z (av ?_))))))))
 refine jr ?_
 refine ⟨.inl Z, _, ar, _, Z, Z, Z⟩
theorem xw {c : Tm} {r : List Tm} (hl : (c :: r).length ≤ 1000) : MQ h1 h2 152 [.c (.rs 0 0 (c :: r).length)] [(0, aG (c :: r))] (aV (.c (.rs 1 0 (c :: r).length)) [(0, aG (c :: r)), (1, aG (c :: r))]) := by
 refine MC.shift 500 Z (MC.keep [500,501] (bs := [aG (c :: r), aG (c :: r)]) Z Z (jH 8 [500] h1 h2 Tryz.func152 Z Z Z Z fun O hF => ?_))
 refine bQ ?_
 refine ag (js O Z (jn (ah (ag (j2 O Z Z (jn (af O Z Z (fun hc4 => ?_) (fun hc4 => ?_))))))))
 exact absurd (show false = true from hc4) (by decide)
 refine an (ag (AOps.heap (bC O Z Z Z) Z (av ?_)))
 refine js O Z (jf [6,5,3,2,0] Z ?_)
 have hl2 := hl
 simp only [iV] at hl2
 refine aj (ck 5 Z) (AOps.heap (bh (own := false) (zs := (c :: r).map Tm.cells) (n := (c :: r).length) O Z Z Z Z Z Z Z Z Z Z Z Z Z Z Z Z (.row Z Z) (.whole Z (by simp) (.inr ⟨Z, Z⟩)) (by simp) Z (by simp; omega) (by simp; omega) Z (by simp)) Z (av ?_))
 refine js O Z (jf [2,3,0] Z (jr ?_))
 refine ⟨.inl Z, _, ae 7 501 Z Z, _, Z, Z, Z⟩
theorem xu : MQ h1 h2 152 [.c (.rs 0 0 0)] [(0, aG [])] (aV (.c (.rs 1 0 0)) [(0, aG []), (1, aG [])]) := by
 refine MC.shift 500 Z (MC.keep [500,501] (bs := [aG [], aG []]) Z Z (jH 8 [500] h1 h2 Tryz.func152 Z Z Z Z fun O hF => ?_))
 refine bQ ?_
 refine ag (js O Z (jn (ah (ag (js O Z (kq O Z Z Z Z Z Z Z Z Z Z (fun b => ?_)))))))
 refine jn (af O Z Z (fun hc4 => ?_) (fun hc4 => ?_))
 refine ag (js O Z (jr ?_))
 refine ⟨.inl Z, _, dF 2 501 2 false Z Z, _, Z, Z, Z⟩
 refine an (ag (AOps.heap (bC O Z Z Z) Z (av ?_)))
 refine js O Z (jf [6,5,3,2,0] Z (aj (ck 5 Z) (AOps.heap (bh (own := false) (zs := []) (n := 0) O Z Z Z Z Z Z Z Z Z Z Z Z Z Z Z Z (.row Z Z) (.whole Z (by simp) (.inr ⟨Z, Z⟩)) (by simp) Z (by simp) (by simp) Z (by simp)) Z (av ?_))))
 refine js O Z (jf [2,3,0] Z (jr ?_))
 refine ⟨.inl Z, _, ae 7 501 Z Z, _, Z, Z, Z⟩
theorem ua {L : Nat} (h1 : 4096 ≤ L) (h2 : L ≤ 1073741824) {ts : List Tm} (hl : ts.length ≤ 1000) : MC Tryz.prog L 152 [.c (.rs 0 0 ts.length)] [(0, aG ts)] (aV (.c (.rs 1 0 ts.length)) [(0, aG ts), (1, aG ts)]) := by
 cases ts with
 | nil => exact xu h1 h2
 | cons c r => exact xw h1 h2 hl
theorem vk {c : Int} {r : List Int} (hl : (c :: r).length ≤ 1000) : MQ h1 h2 192 [.c (.rs 0 0 (c :: r).length)] [(0, aZ (c :: r))] (aV (.c (.rs 1 0 (c :: r).length)) [(0, aZ (c :: r)), (1, aZ (c :: r))]) := by
 refine MC.shift 500 Z (MC.keep [500,501] (bs := [aZ (c :: r), aZ (c :: r)]) Z Z (jH 8 [500] h1 h2 Tryz.func192 Z Z Z Z fun O hF => ?_))
 refine bQ ?_
 refine ag (js O Z (jn (ah (ag (j2 O Z Z (jn (af O Z Z (fun hc4 => ?_) (fun hc4 => ?_))))))))
 exact absurd (show false = true from hc4) (by decide)
 refine an (ag (AOps.heap (bC O Z Z Z) Z (av ?_)))
 refine js O Z (jf [6,5,3,2,0] Z ?_)
 have hl2 := hl
 simp only [iV] at hl2
 refine AOps.heap (bh (own := true) (zs := (c :: r).map (fun n => [D.int .i64 n])) (n := (c :: r).length) O Z Z Z Z Z Z Z Z Z Z Z Z Z Z Z Z (.row Z Z) (.whole Z (by simp) (.inl (Scal.map (fun a => rfl)))) (by simp) Z (by simp; omega) (by simp; omega) Z (by simp)) Z (av ?_)
 refine js O Z (jf [2,3,0] Z (jr ?_))
 refine ⟨.inl Z, _, ae 7 501 Z Z, _, Z, Z, Z⟩
theorem vj : MQ h1 h2 192 [.c (.rs 0 0 0)] [(0, aZ [])] (aV (.c (.rs 1 0 0)) [(0, aZ []), (1, aZ [])]) := by
 refine MC.shift 500 Z (MC.keep [500,501] (bs := [aZ [], aZ []]) Z Z (jH 8 [500] h1 h2 Tryz.func192 Z Z Z Z fun O hF => ?_))
 refine bQ ?_
 refine ag (js O Z (jn (ah (ag (js O Z (kq O Z Z Z Z Z Z Z Z Z Z (fun b => ?_)))))))
 refine jn (af O Z Z (fun hc4 => ?_) (fun hc4 => ?_))
 refine ag (js O Z (jr ?_))
 refine ⟨.inl Z, _, dF 2 501 1 true Z Z, _, Z, Z, Z⟩
 refine an (ag (AOps.heap (bC O Z Z Z) Z (av ?_)))
 refine js O Z (jf [6,5,3,2,0] Z (AOps.heap (bh (own := true) (zs := []) (n := 0) O Z Z Z Z Z Z Z Z Z Z Z Z Z Z Z Z (.row Z Z) (.whole Z (by simp) (.inl (Scal.map (fun a => rfl)))) (by simp) Z (by simp) (by simp) Z (by simp)) Z (av ?_)))
 refine js O Z (jf [2,3,0] Z (jr ?_))
 refine ⟨.inl Z, _, ae 7 501 Z Z, _, Z, Z, Z⟩
theorem vi {L : Nat} (h1 : 4096 ≤ L) (h2 : L ≤ 1073741824) {ts : List Int} (hl : ts.length ≤ 1000) : MC Tryz.prog L 192 [.c (.rs 0 0 ts.length)] [(0, aZ ts)] (aV (.c (.rs 1 0 ts.length)) [(0, aZ ts), (1, aZ ts)]) := by
 cases ts with
 | nil => exact vj h1 h2
 | cons c r => exact vk h1 h2 hl
theorem xt : MQ h1 h2 152 [.c (.d .nils)] [] (Plain (.c (.d .nils))) := by
 refine jB 8 h1 h2 Tryz.func152 Z Z Z fun O hF => ?_
 refine ag (js O Z (jn (ah (ag (j2 O Z Z (jn (af O Z Z (fun hc4 => ?_) (fun hc4 => ?_))))))))
 refine ag (js O Z (jr ?_))
 refine ⟨.inl Z, _, ar, _, Z, ?_⟩
 exact ⟨Z, Z⟩
 exact absurd (show true = false from hc4) (by decide)
abbrev wA (frm : Int) (w : Pw) (i j k : Nat) : A := .agg [.d (.int .i64 frm), .rs i 0 w.vars.length, .d .nils, .rs j 0 w.facts.length, .rs k 0 w.ev.length, .d (.int .i64 (w.sym : Int))]
theorem pV (hv : w.vars.length ≤ 1000) (hl : w.facts.length ≤ 1000) (he : w.ev.length ≤ 1000) : MQ h1 h2 163 [wA frm w 0 1 2] [(0, aG w.vars), (1, aG w.facts), (2, aZ w.ev)] (aV (wA frm w 3 4 5) [(0, aG w.vars), (1, aG w.facts), (2, aZ w.ev), (3, aG w.vars), (4, aG w.facts), (5, aZ w.ev)]) := by
 refine MC.shift 500 Z (MC.keep [500,501,502,503,504,505] (bs := [aG w.vars, aG w.facts, aZ w.ev, aG w.vars, aG w.facts, aZ w.ev]) Z Z (jH 20 [500,501,502] h1 h2 Tryz.func163 Z Z Z Z fun O hF => ?_))
 refine bQ ?_
 refine ag (jx O Z (av ?_))
 refine jf [1] Z (jl O Z (av ?_))
 refine jn (ah (gv O [_,_,_,_,_,_,_,_,_,_,_,_,_,_,_,_,_,_,_,_] [pn [] 0 0, pn [0] 0 0, pe [0,1] 0, pn [] 0 1, pn [3] 0 1, pe (rg 0 5) 1, pn [] 0 2, pn [6] 0 2, pe (rg 0 8) 2, pn [] 0 3, pn [9] 0 3, pe (rg 0 11) 3, pn [0,1,2,3,4,6,7,9,10] 1 4, pe (rg 0 13) 4, pn (rg 0 14) 5 5, pe (rg 0 15) 5, pn (rg 0 16) 6 6, pe (rg 0 17) 6, pn (rg 0 18) 7 7, pe (rg 0 19) 7] [2,5,8,11,13,15,17,19] [_,_,_,_,_,_,_,_,_] (kc O Z (kc O Z (ai (bE O [500] (bin := [aG w.vars]) Z Z Z Z (ua h1 h2 hv) Z Z Z Z Z (B0 := 6000) Z Z Z Z Z Z) (ai (kc O Z (V O Z)) (ai (kc O Z (V O Z)) (ai (c9 O (B0 := 9000) Z Z Z Z (xt h1 h2) (ac Z) Z Z Z Z Z) (ai (kc O Z (kc O Z (V O Z))) (ai (kc O Z (kc O Z (V O Z))) (ai (bE O [501] (bin := [aG w.facts]) Z Z Z Z (ua h1 h2 hl) Z Z Z Z Z (B0 := 12000) Z Z Z Z Z Z) (ai (kc O Z (kc O Z (kc O Z (V O Z)))) (ai (kc O Z (kc O Z (kc O Z (V O Z)))) (ai (bE O [502] (bin := [aZ w.ev]) Z Z Z Z (vi h1 h2 he) Z Z Z Z Z (B0 := 15000) Z Z Z Z Z Z) (ai (kc O Z (kc O Z (kc O Z (V O Z)))) (ai (eS O Z Z Z) (kc O Z (ai (eS O Z Z Z) (kc O Z (ai (eS O Z Z Z) (kc O Z (ai (eS O Z Z Z) trivial)))))))))))))))))))) ?_))
 refine jw [2,1] Z (bQ ?_)
 refine ag (js O Z (jo O Z (av ?_)))
 refine jr ?_
 refine ⟨.inl Z, _, ((ae 6001 503 Z Z).trans (ae 12001 504 Z Z)).trans (ae 15001 505 Z Z), _, Z, Z, Z⟩
theorem r3 {ok : Bool} : MQ h1 h2 161 [.c (.pt 0 0 0), cP t, eB ok] [(0, iB c g 1 2 3), (1, aB g.paths), (2, aD g.conds), (3, aO c.num)] (aV (cP t) [(0, iB c (g.flag (!ok)) 1 2 3), (1, aB (g.flag (!ok)).paths), (2, aD (g.flag (!ok)).conds), (3, aO c.num)]) := by
 refine MC.shift 500 Z (MC.keep [500,501,502,503] (bs := [iB c (g.flag (!ok)) 501 502 503, aB (g.flag (!ok)).paths, aD (g.flag (!ok)).conds, aO c.num]) Z Z (jH 13 [500,501,502,503] h1 h2 Tryz.func161 Z Z Z Z fun O hF => ?_))
 refine bQ ?_
 refine ag (jx O Z (av ?_))
 refine jf [4,0,2] Z (jl O Z (av ?_))
 refine jn (ah (ag (j2 O Z Z (jf [8,6,4,0] Z (jn (af O Z Z (fun hc8 => ?_) (fun hc8 => ?_)))))))
 refine am (j3 O Z Z Z (jf [11,6,4] Z (jo O Z (av ?_))))
 refine bf (js O Z (jf [12,11,6] Z (jo O Z (av ?_))))
 refine jr ?_
 have hok : ok = false := by simpa using hc8
 subst hok
 rw [show g.flag (!false) = ⟨g.paths, g.conds, true⟩ from im]
 refine ⟨.inl Z, _, ar, _, Z, Z, Z⟩
 refine an (ag (js O Z (jf [12,6,0] Z (jo O Z (av ?_)))))
 refine jr ?_
 have hok : ok = true := by simpa using hc8
 subst hok
 rw [show g.flag (!true) = g from fg]
 refine ⟨.inl Z, _, ar, _, Z, Z, Z⟩
end Go.Al
