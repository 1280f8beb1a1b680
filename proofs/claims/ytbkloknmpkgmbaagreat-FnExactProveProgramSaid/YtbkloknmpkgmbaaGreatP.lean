/- The program: goals, facts, ends of paths, copies. -/
import Derived.Test.YtbkloknmpkgmbaaGreatH
import Derived.Test.YtbkloknmpkgmbaaGreatM
import Derived.Test.YtbkloknmpkgmbaaGreatC
set_option linter.unusedVariables false
set_option linter.unusedSimpArgs false
set_option maxRecDepth 10000
set_option maxHeartbeats 4000000
open Go.Proofs
namespace Go.Al
variable {L : Nat} (h1 : 4096 ≤ L) (h2 : L ≤ 1073741824)
variable {t : Tm}
theorem zU : MQ h1 h2 191 [cL t] [] (Rows (.tup [.agg [.d (.int .i64 (nh t).1.c), .rs 0 0 (nh t).1.xs.length], eB (nh t).2]) [aX (nh t).1.xs]) := by
 refine bI (jB 10 h1 h2 Tryz.func191 Z Z Z fun O hF => ?_)
 refine ah (jx O Z (au ?_))
 refine jf [1] Z (jl O Z (au ?_))
 refine js O Z (jn (ag (ah (js O Z (ap O Z Z Z Z (mU (t := t) h1 h2) (aa Z) Z Z Z Z Z (B0 := 6000) Z (js O Z (jf [6,3,2,1] Z (jn (ae O Z Z (fun hc6 => ?_) (fun hc6 => ?_))))))))))
 refine ah (js O Z (jf [7,3,2,1] Z (jo O Z (au ?_))))
 refine js O Z (jr ?_)
 have hok : t.ok = false := by simpa using hc6
 rw [show nh t = (⟨0, []⟩, false) from if_neg (by rw [hok]; decide)]
 refine ⟨.inl Z, _, cd 2 900 1 true 1 Z Z Z, _, Z, [900], by decide, Z, Z, Z⟩
 refine aj (ah (js O Z (jf [8,3,2,1] Z (bn O (B0 := 10000) Z Z Z Z (oG (t := t) h1 h2) (aa Z) Z Z Z Z Z Z (au ?_)))))
 refine jf [9,3,2,1] Z (jo O Z (au ?_))
 refine js O Z (jr ?_)
 have hok : t.ok = true := by simpa using hc6
 rw [show nh t = (t, true) from if_pos hok]
 refine ⟨.inl Z, _, am, _, Z, [10000], by decide, Z, Z, Z⟩
theorem zV {vs : List Tm} (ht : t.ok = true) (hv : eH vs 10 = true) (hle : t.xs.length ≤ vs.length) : MQ h1 h2 164 [cL t, bN vs] [] (Rows (.tup [.agg [.d (.int .i64 (aQ t vs).1.c), .rs 0 0 (aQ t vs).1.xs.length], eB (aQ t vs).2]) [aX (aQ t vs).1.xs]) := by
 refine bI (jB 64 h1 h2 Tryz.func164 Z Z Z fun O hF => ?_)
 have htl := lK ht
 refine ah (jx O Z (au ?_))
 refine jf [2,1] Z (jl O Z (au ?_))
 refine js O Z (jn (ag (ah (js O Z (ap O Z Z Z Z (mU (t := t) h1 h2) (aa Z) Z Z Z Z Z (B0 := 13000) Z (j2 O Z Z (jf [14,5,4,2,1] Z (az 3 Z Z Z (fun hx => ab hx Z Z Z (V O Z) Z Z ( bv O hx Z Z Z Z (y5 (ts := vs) (n := 10) h1 h2) (aa Z) Z Z Z Z Z Z Z (B0 := 17000) Z ( ab hx Z Z Z (V O Z) Z Z ( AN.nil)))) Z Z (ac (aL O Z Z Z Z Z) Z Z Z (jf [18,5,4,2,1] Z (jn (ae O Z Z (fun hc18 => ?_) (fun hc18 => ?_)))))))))))))
 exact absurd hc18 (by rw [hv, ht]; decide)
 refine aj (ah (j3 O Z Z Z (jf [22,5,4,2,1] Z (AOps.heap (bE O Z Z Z Z Z Z Z Z Z Z Z) Z (au ?_)))))
 refine ay (Ent.rowLe 23 Z (.cons (.cons .refl (.cons (.nil (sz := 1)) .nil)) .nil)) (au ?_)
 refine au ?_
 refine jf [23,5,4,2,1] Z (AOps.heap (bA O Z Z Z) Z (au ?_))
 refine j2 O Z Z (jf [7,6,5,4,2,1] Z (jn (ag (ah (j2 O Z Z (cu O Z (js O Z (jn (ao (aq (X := Nat) (fun i => ⟨[(1, bN vs), (2, .c (.pt 2 0 0)), (4, .c (.pt 4 0 0)), (6, .c (.rs 906 0 (i + 1))), (7, .c (.rs 907 0 (i + 1))), (26, bH t.xs), (27, eI t.xs.length), (28, eI i)], [(2, .box [.d (.int .i64 t.c), .d (bj t.xs)]), (4, .box [.d (.int .i64 0), .d .nils]), (906, .row false 2 ((⟨t.c, []⟩ :: vs.take i).map Tm.cells)), (907, aX (1 :: t.xs.take i))]⟩) (fun i => i ≤ t.xs.length) (fun i => t.xs.length - i) 0 ((((aw [2,4,23,24] (e' := [(1, _), (2, _), (4, _), (6, _), (7, _), (26, _), (27, _), (28, _)]) Z Z ⟨Z, Z, Z, Z, Z, Z, Z, Z, trivial⟩ Z).trans (af 23 906 Z Z)).trans (af 24 907 Z Z)).trans (Ent.to ⟨Z, Z, Z, Z, Z, Z, Z, Z, trivial⟩ Z)) ?_ (fun i hi => ?_)))))))))))
 exact ct _
 refine ah (js O Z (jn (ag (ae O Z Z (fun hc29 => ?_) (fun hc29 => ?_)))))
 refine aj (ag (ao (ah (js O Z (iM O Z Z (j3 O Z Z Z (jf [9,8,29,1,2,4,6,7,26,27,28] Z (aV ?_))))))))
 have hil : i < t.xs.length := by have := bC hc29; omega
 have hvl : vs.length ≤ 10 := by have := (sm hv).2; omega
 refine js O Z (ji O Z (jf [34,9,8,29,1,2,4,6,7,26,27,28] Z (AOps.heap (ea O Z Z Z Z Z Z Z Z Z (by first | omega | (simp at *; omega)) (by first | omega | (simp at *; omega)) (by first | omega | (simp at *; omega)) (by first | omega | (dsimp only; omega) | (simp only [aT] at *; omega)) (by first | omega | (simp at *; omega)) Z Z Z) Z (au ?_))))
 refine js O Z (jf [36,9,8,29,1,2,4,6,7,26,27,28] Z (jl O Z (au ?_)))
 refine jo O Z (au ?_)
 refine aV (j3 O Z Z Z (dk O Z Z (jf [40,10,36,9,8,29,1,2,4,6,7,26,27,28] Z (AOps.heap (bg (ex := [.int .i64 0]) (xs' := ((List.replicate i 0 ++ [1] : List Int)).map (fun n => [D.int .i64 n])) O Z Z Z Z Z Z Z Z Z Z Z Z Z Z m5 mZ) Z (au ?_)))))
 refine jn (ag (ah (j2 O Z Z (cu O Z (js O Z (jf [44,40,10,36,9,8,29,1,2,4,6,7,26,27,28] Z (jn (ae O Z Z (fun hc44 => ?_) (fun hc44 => ?_)))))))))
 refine ak (j2 O Z Z (iM O Z Z (js O Z (jf [48,44,40,10,36,9,8,29,1,2,4,6,7,26,27,28] Z (jo O Z (au ?_))))))
 refine jn (ak (j2 O Z Z (AOps.heap (bE O Z Z Z Z Z Z Z Z Z Z Z) Z (au ?_))))
 refine jf [51,49,48,44,40,10,36,9,8,29,1,2,4,6,7,26,27,28] Z (AOps.heap (aU (own := false) (xs := ((⟨t.c, []⟩ : Tm) :: vs.take i).map Tm.cells) (ys := [Tm.cells (vs.getD i default)]) (zs := ((⟨t.c, []⟩ : Tm) :: vs.take (i + 1)).map Tm.cells) (n := i + 2) O Z Z Z Z Z Z Z Z Z Z Z Z Z Z Z Z (.row Z (by simp; omega)) (.whole Z Z (.inr ⟨Z, Z⟩)) (by simp) Z (by simp; omega) (by simp; omega) (by rw [List.take_succ_eq_append_getElem (by omega), ← List.cons_append, List.map_append, ax (by omega)]; rfl) (by simp; omega)) Z (au ?_))
 refine ay (aw [2,4,52,907] (e' := [(52, _), (9, _), (7, _), (1, _), (2, _), (4, _), (26, _), (27, _), (28, _)]) Z Z ⟨Z, Z, Z, Z, Z, Z, Z, Z, Z, trivial⟩ Z) (au ?_)
 refine j2 O Z Z (jf [54,53,52,7,1,2,4,26,27,28] Z (AOps.heap (bA O Z Z Z) Z (au ?_)))
 refine jf [55,53,52,7,1,2,4,26,27,28] Z (AOps.heap (cm (zs := (1 :: t.xs.take (i + 1)).map fun n => [.int .i64 n]) (n := i + 2) O Z Z Z Z Z Z Z Z Z Z Z Z Z Z Z Z (.row Z (by simp; omega)) Z Z (by decide) Z (by simp; omega) (by simp; omega) (by rw [show t.xs.take (i + 1) = t.xs.take i ++ [t.xs.getD i default] by rw [List.take_succ_eq_append_getElem (by omega), ax (by omega)], ← List.cons_append, List.map_append]; rfl) (by simp; omega)) Z (au ?_))
 refine j2 O Z Z (jf [7,6,1,2,4,26,27,28] Z (jn (ak (ji O Z (js O Z (jn ?_))))))
 refine ⟨i + 1, (((aw [2,4,52,56] (e' := [(1, _), (2, _), (4, _), (6, _), (7, _), (26, _), (27, _), (28, _)]) Z Z ⟨Z, Z, Z, Z, Z, Z, Z, Z, trivial⟩ Z).trans (af 52 906 Z Z)).trans (af 56 907 Z Z)), by omega, by omega⟩
 exact absurd hc44 (by simp; omega)
 refine aO (ah ?_)
 have hvl : vs.length ≤ 10 := by have := (sm hv).2; omega
 obtain rfl : i = t.xs.length := by have := cH hc29; omega
 rw [List.take_length]
 refine ay (Ent.freeze 906 (e' := [(6, _), (7, _), (4, _), (2, _)]) Z (.cons Z (.c (.row Z (by simp; omega))) (fe [7,4,2] Z)) (.cons Z (.box (fk Z)) (.cons Z (.box (fk Z)) (.skip (.cons Z .row .nil))))) ?_
 refine ay (Ent.freeze 907 (e' := [(6, _), (7, _), (4, _), (2, _)]) Z (.cons Z (.keep Z) (.cons Z (.c (.row Z (by simp))) (fe [4,2] Z))) (.cons Z (.box (fk Z)) (.cons Z (.box (fk Z)) (.skip .nil)))) ?_
 refine j2 O Z Z (ar O Z Z Z Z (y4 (ts := ⟨t.c, []⟩ :: vs.take t.xs.length) (ms := 1 :: t.xs) h1 h2 (xz ht hv) (by have := (Small.of ht).xs; rw [List.all_cons, this]; decide) (by simp; omega)) (aa Z) Z Z Z Z (B0 := 61000) Z Z (jf [60,6,7,4,2] Z (bn O (B0 := 62000) Z Z Z Z (zU (t := j9 (⟨t.c, []⟩ :: vs.take t.xs.length) (1 :: t.xs)) h1 h2) (aa Z) Z Z Z Z Z Z (au ?_))))
 refine j2 O Z Z (jf [63,62,6,7,4,2] Z (jo O Z (au ?_)))
 refine js O Z (jf [5,6,7,4,2] Z (jr ?_))
 rw [← wo]
 refine ⟨.inl Z, _, am, _, Z, [62000], by decide, Z, Z, Z⟩
structure Pc where
  post : D
  starts : D
  body : D
  loops : D
  behind : D
  num : List (Int × D)
abbrev aN (ps : List Pth) : B := .row true 5 (ps.map Pth.cells)
abbrev aM (ss : List Sq) : B := .row true 3 (ss.map Sq.cells)
abbrev iB (c : Pc) (g : Gs) (i j k : Nat) : B := .box [.d c.post, .d c.starts, .rs i 0 g.paths.length, .rs j 0 g.conds.length, .d (.bool g.bad), .d c.body, .d c.loops, .d c.behind, .mp k]
abbrev iW (frm : Int) (w : Pw) (i j k : Nat) : B := .box [.d (.int .i64 frm), .rs i 0 w.vars.length, .d .nils, .rs j 0 w.facts.length, .rs k 0 w.ev.length, .d (.int .i64 (w.sym : Int))]
abbrev iH (c : Pc) (g : Gs) (frm : Int) (w : Pw) : List (Nat × B) := [(0, iB c g 1 2 3), (1, aN g.paths), (2, aM g.conds), (3, aZ c.num), (4, iW frm w 5 6 7), (5, aH w.vars), (6, aH w.facts), (7, aX w.ev)]

variable {c : Pc} {g : Gs}
theorem Cr {k : Int} {xs : List Int} {ok : Bool} : MQ h1 h2 161 [.c (.pt 0 0 0), (.agg [.d (.int .i64 k), .rs 4 0 xs.length]), eB ok] [(0, iB c g 1 2 3), (1, aN g.paths), (2, aM g.conds), (3, aZ c.num), (4, aX xs)] (bc (.agg [.d (.int .i64 k), .rs 4 0 xs.length]) [(0, iB c (g.flag (!ok)) 1 2 3), (1, aN (g.flag (!ok)).paths), (2, aM (g.flag (!ok)).conds), (3, aZ c.num), (4, aX xs)]) := by
 refine aJ 500 Z (MC.keep [500,501,502,503,504] (bs := [iB c (g.flag (!ok)) 501 502 503, aN (g.flag (!ok)).paths, aM (g.flag (!ok)).conds, aZ c.num, aX xs]) Z Z (jH 13 [500,501,502,503,504] h1 h2 Tryz.func161 Z Z Z Z fun O hF => ?_))
 refine b9 ?_
 refine ah (jx O Z (au ?_))
 refine jf [4,0,2] Z (jl O Z (au ?_))
 refine jn (ag (ah (j2 O Z Z (jf [8,6,4,0] Z (jn (ae O Z Z (fun hc8 => ?_) (fun hc8 => ?_)))))))
 refine ak (j3 O Z Z Z (jf [11,6,4] Z (jo O Z (au ?_))))
 refine aV (js O Z (jf [12,11,6] Z (jo O Z (au ?_))))
 refine jr ?_
 have hok : ok = false := by simpa using hc8
 subst hok
 rw [show g.flag (!false) = ⟨g.paths, g.conds, true⟩ from jU]
 refine ⟨.inl Z, _, am, _, Z, Z, Z⟩
 refine aj (ah (js O Z (jf [12,6,0] Z (jo O Z (au ?_)))))
 refine jr ?_
 have hok : ok = true := by simpa using hc8
 subst hok
 rw [show g.flag (!true) = g from ga]
 refine ⟨.inl Z, _, am, _, Z, Z, Z⟩
variable {frm : Int} {w : Pw}
theorem mr (ht : t.ok = true) (hv : eH w.vars 10 = true) (hle : t.xs.length ≤ w.vars.length) : MQ h1 h2 114 [.c (.pt 0 0 0), .c (.pt 4 0 0), cL t] (iH c g frm w) (bc (cL (aQ t w.vars).1) (iH c (aY w t g) frm w)) := by
 refine aJ 500 Z (MC.keep [500,501,502,503,504,505,506,507] (bs := [iB c (aY w t g) 501 502 503, aN (aY w t g).paths, aM (aY w t g).conds, aZ c.num, iW frm w 505 506 507, aH w.vars, aH w.facts, aX w.ev]) Z Z (jH 17 [500,501,502,503,504,505,506,507] h1 h2 Tryz.func114 Z Z Z Z fun O hF => ?_))
 refine b9 ?_
 refine ah (jx O Z (au ?_))
 refine ay (Ent.freeze 5 (e' := [(5, _), (0, _), (1, _)]) Z (.cons Z (.c (.box (cs := Tm.cells t) Z (aE Z))) (fe [0,1] Z)) (.skip (.cons Z (.box (fk Z)) (.cons Z .row (.cons Z .row (.cons Z .map (.cons Z (.box (fk Z)) (.cons Z .row (.cons Z .row (.cons Z .row .nil)))))))))) ?_
 refine au ?_
 refine jl O Z (au ?_)
 refine jn (ag (gL O [_,_,_,_,_,_,_,_,_,_,_] [pn [] 0 1, pn [] 0 0, pn [] 0 0, pn [2] 0 0, pn [2,3] 0 0, pn [2,3,4] 0 0, pe (rg 1 5) 0, pn (rg 1 6) 1 1, pn (rg 1 6) 1 1, pe (rg 0 9) 1, pe (rg 0 10) 2] [6,9,10] [_,_,_,_] (ai (kc O Z (V O Z)) (kc O Z (kc O Z (kc O Z (kc O Z (kc O Z (ai (dg O (B0 := 14000) Z Z Z Z (zV (t := t) (vs := w.vars) h1 h2 ht hv hle) (.cons (.agg (aE Z)) (.cons (.c (.whole Z (bz _).symm)) .nil)) Z Z Z Z Z) (kc O Z (kc O Z (ai (cE O [500,501,502,503,14000] (bin := [iB c g 1 2 3, aN g.paths, aM g.conds, aZ c.num, aX (aQ t w.vars).1.xs]) Z Z Z Z (Cr (c := c) (g := g) (k := (aQ t w.vars).1.c) (xs := (aQ t w.vars).1.xs) (ok := (aQ t w.vars).2) h1 h2) Z Z Z Z Z (B0 := 17000) Z Z Z Z Z Z) (ai (eS O Z Z Z) trivial))))))))))) ?_))
 refine jw [6] Z (b9 ?_)
 refine dz ?_
 refine ⟨.inl Z, _, Ent.freeze 14000 (e' := [(6, _)]) Z (fe [6] Z) (.cons Z (.box (.cons (.keep Z) (.cons (.row Z (bz _).symm) .nil))) (.cons Z (.box (fk Z)) (.cons Z .row (.cons Z .row (.cons Z .row (.cons Z (.box (fk Z)) (.cons Z .row (.cons Z .row (.cons Z .map (.skip .nil)))))))))), _, Z, Z, Z⟩
abbrev Eu (c : Pc) (g : Gs) (frm : Int) (w : Pw) : List (Nat × B) := [(0, iB c g 1 8 3), (1, aN g.paths), (3, aZ c.num), (4, iW frm w 5 6 7), (5, aH w.vars), (6, aH w.facts), (7, aX w.ev), (8, aM g.conds)]
def dy (w : Pw) (t : Tm) (g : Gs) : Gs := (g.goal w t).flag (!t.ok)
theorem tn (hg : g.conds.length + 1 ≤ L) : MQ h1 h2 157 [.c (.pt 0 0 0), .c (.pt 4 0 0), cL t] (iH c g frm w) (bc (.tup []) (Eu c (dy w t g) frm w)) := by
 refine aJ 500 Z (MC.keep [500,501,503,504,505,506,507,508] (bs := [iB c (dy w t g) 501 508 503, aN (dy w t g).paths, aZ c.num, iW frm w 505 506 507, aH w.vars, aH w.facts, aX w.ev, aM (dy w t g).conds]) Z Z (jH 31 [500,501,502,503,504,505,506,507] h1 h2 Tryz.func157 Z Z Z Z fun O hF => ?_))
 refine b9 ?_
 refine ah (jx O Z (au ?_))
 refine ay (Ent.freeze 5 (e' := [(5, _), (0, _), (1, _)]) Z (.cons Z (.c (.box (cs := Tm.cells t) Z (aE Z))) (fe [0,1] Z)) (.skip (.cons Z (.box (fk Z)) (.cons Z .row (.cons Z .row (.cons Z .map (.cons Z (.box (fk Z)) (.cons Z .row (.cons Z .row (.cons Z .row .nil)))))))))) ?_
 refine au ?_
 refine jn (ag (oq O [_,_,_,_,_,_,_,_,_,_] [pn [] 0 0, pn [0] 0 0, pn [0,1] 0 0, pn [0,1,2] 0 0, pe [0,1,2,3] 0, pn [] 0 1, pe [0,1,2,3,4,5] 1, pn [0,1,2,3,4,5,6] 2 2, pn [] 0 2, pe [0,1,2,3,4,5,6,7,8] 2] [4,6,9] 8 6 (.box [.d .nils, .d (.int .i64 0), .d .nils]) [_,_,_] [_] [[], [], []] (kf O Z Z Z (kf O Z Z Z (kf O Z Z Z (kf O Z Z Z (ai (ai (aD (aG (dg O (B0 := 12000) Z Z Z Z (xf (ts := w.facts) h1 h2) (.cons (.c (.whole Z (bz _).symm)) .nil) Z Z Z Z Z)) (aG (dg O (B0 := 12000) Z Z Z Z (xf (ts := w.facts) h1 h2) (.cons (.c (.whole Z (bz _).symm)) .nil) Z Z Z Z Z))) Z) (ai (kf O Z Z Z (kg O Z Z Z)) (ai (ai (aD (aG (dg O (B0 := 14000) Z Z Z Z (oG (t := t) h1 h2) (aa Z) Z Z Z Z Z)) (aG (dg O (B0 := 14000) Z Z Z Z (oG (t := t) h1 h2) (aa Z) Z Z Z Z Z))) Z) (kf O Z Z Z (ai (ai (ai (aG (Eff.alloc O Z Z Z Z Z Z)) Z) (ai (ai (aG (Eff.alloc O Z Z Z Z Z Z)) Z) (ai (aG (Eff.alloc O Z Z Z Z Z Z)) Z))) (ai (ai (aD trivial (aG (eS O Z Z Z))) Z) trivial)))))))))) ?_))
 refine jw [6,5,0] Z (b9 ?_)
 refine ag (ah (js O Z (ap O Z Z Z Z (mU (t := t) h1 h2) (aa Z) Z Z Z Z Z (B0 := 17000) Z (js O Z (jf [17,6,5,0] Z (jn (ae O Z Z (fun hc17 => ?_) (fun hc17 => ?_))))))))
 refine ak (j3 O Z Z Z (jf [20,6,5,0] Z (jo O Z (au ?_))))
 refine jn (jA O [_,_,_,_,_,_,_,_,_,_,_] [pn [] 0 2, pn [] 0 1, pn [1] 0 1, pn [1,2] 0 1, pn [1,2,3] 0 1, pn [] 0 0, pe [5] 0, pe (rg 1 6) 1, pn (rg 0 8) 2 2, pn (rg 0 9) 2 2, pe (rg 0 10) 2] [6,7,10] [_,_,_,_] [[12000,14000], [502,27], []] (ai (ka O Z Z (ka O Z Z (kw O Z Z))) (ai (ka O Z Z (kw O Z Z)) (ai (ka O Z Z (kw O Z Z)) (ai (ka O Z Z (kw O Z Z)) (ai (ka O Z Z (kw O Z Z)) (ka O Z Z (ai (ai (jv [12000,14000] (ds := Sq.cells (⟨w.facts, t⟩ : Sq)) O Z Z Z Z Z Z Z Z Z Z Z Z (fun e => .rs Z (bz _).symm (.d Z (.rs Z (bz _).symm .nil))) Z Z) Z) (ai (ai (dm (xs := g.conds.map Sq.cells) (ys := [Sq.cells (⟨w.facts, t⟩ : Sq)]) (zs := (g.conds ++ [(⟨w.facts, t⟩ : Sq)]).map Sq.cells) (n := (g.conds ++ [(⟨w.facts, t⟩ : Sq)]).length) O Z Z Z Z Z Z Z Z Z Z Z Z Z Z Z Z (.row Z (bz _).symm) Z Z (by decide) Z (by simp; omega) (by simp; omega) (by simp) (by simp) Z) Z) (ka O Z Z (ka O Z Z (ai (ai (aG (eS O Z Z Z)) Z) trivial))))))))))) ?_)
 show _ ∧ _
 have hok : t.ok = false := by simpa using hc17
 rw [show dy w t g = ⟨g.paths, g.conds ++ [(⟨w.facts, t⟩ : Sq)], true⟩ by rw [dy, hok]; simp [Gs.flag, Gs.goal]]
 refine ⟨.inr Z, _, af 28 508 Z Z, _, Z, Z, Z⟩
 refine aj (jw [6,5,0] Z (jA O [_,_,_,_,_,_,_,_,_,_,_] [pn [] 0 2, pn [] 0 1, pn [1] 0 1, pn [1,2] 0 1, pn [1,2,3] 0 1, pn [] 0 0, pe [5] 0, pe (rg 1 6) 1, pn (rg 0 8) 2 2, pn (rg 0 9) 2 2, pe (rg 0 10) 2] [6,7,10] [_,_,_,_] [[12000,14000], [502,27], []] (ai (ka O Z Z (ka O Z Z (kw O Z Z))) (ai (ka O Z Z (kw O Z Z)) (ai (ka O Z Z (kw O Z Z)) (ai (ka O Z Z (kw O Z Z)) (ai (ka O Z Z (kw O Z Z)) (ka O Z Z (ai (ai (jv [12000,14000] (ds := Sq.cells (⟨w.facts, t⟩ : Sq)) O Z Z Z Z Z Z Z Z Z Z Z Z (fun e => .rs Z (bz _).symm (.d Z (.rs Z (bz _).symm .nil))) Z Z) Z) (ai (ai (dm (xs := g.conds.map Sq.cells) (ys := [Sq.cells (⟨w.facts, t⟩ : Sq)]) (zs := (g.conds ++ [(⟨w.facts, t⟩ : Sq)]).map Sq.cells) (n := (g.conds ++ [(⟨w.facts, t⟩ : Sq)]).length) O Z Z Z Z Z Z Z Z Z Z Z Z Z Z Z Z (.row Z (bz _).symm) Z Z (by decide) Z (by simp; omega) (by simp; omega) (by simp) (by simp) Z) Z) (ka O Z Z (ka O Z Z (ai (ai (aG (eS O Z Z Z)) Z) trivial))))))))))) ?_))
 show _ ∧ _
 have hok : t.ok = true := by simpa using hc17
 rw [show dy w t g = ⟨g.paths, g.conds ++ [(⟨w.facts, t⟩ : Sq)], g.bad⟩ by rw [dy, hok]; simp [Gs.flag, Gs.goal]]
 refine ⟨.inr Z, _, af 28 508 Z Z, _, Z, Z, Z⟩
abbrev Et (c : Pc) (g : Gs) (frm : Int) (w : Pw) : List (Nat × B) := [(0, iB c g 1 2 3), (1, aN g.paths), (2, aM g.conds), (3, aZ c.num), (4, iW frm w 5 9 7), (5, aH w.vars), (7, aX w.ev), (9, aH w.facts)]
theorem sI {g : Gs} : g.flag true = ⟨g.paths, g.conds, true⟩ := by simp [Gs.flag]
theorem mF {g : Gs} : g.flag false = g := by simp [Gs.flag]
theorem tl (hl : w.facts.length ≤ 1000) : MQ h1 h2 158 [.c (.pt 0 0 0), .c (.pt 4 0 0), cL t] (iH c g frm w) (bc (.tup []) (Et c (g.flag (w.fact t).long) frm (w.fact t))) := by
 refine aJ 500 Z (MC.keep [500,501,502,503,504,505,507,509] (bs := [iB c (g.flag (w.fact t).long) 501 502 503, aN (g.flag (w.fact t).long).paths, aM (g.flag (w.fact t).long).conds, aZ c.num, iW frm (w.fact t) 505 509 507, aH (w.fact t).vars, aX (w.fact t).ev, aH (w.fact t).facts]) Z Z (jH 25 [500,501,502,503,504,505,506,507] h1 h2 Tryz.func158 Z Z Z Z fun O hF => ?_))
 refine b9 ?_
 refine ah (jx O Z (au ?_))
 refine ay (Ent.freeze 5 (e' := [(5, _), (0, _), (1, _)]) Z (.cons Z (.c (.box (cs := Tm.cells t) Z (aE Z))) (fe [0,1] Z)) (.skip (.cons Z (.box (fk Z)) (.cons Z .row (.cons Z .row (.cons Z .map (.cons Z (.box (fk Z)) (.cons Z .row (.cons Z .row (.cons Z .row .nil)))))))))) ?_
 refine au ?_
 refine jn (ag (oq O [_,_,_,_,_,_,_,_,_,_,_] [pn [] 0 1, pn [] 0 0, pn [1] 0 0, pn [1,2] 0 0, pn [1,2,3] 0 0, pn [] 0 0, pn [5] 0 0, pe [1,2,3,4,5,6] 0, pn [0,1,2,3,4,5,6,7] 1 1, pn [0,1,2,3,4,5,6,7,8] 1 1, pe [0,1,2,3,4,5,6,7,8,9] 1] [7,10] 6 12 (.row false 2 [Tm.cells t]) [_] [_,_] [[506], []] (ai (kf O Z Z Z (kg O Z Z Z)) (kf O Z Z Z (kf O Z Z Z (kf O Z Z Z (kf O Z Z Z (kf O Z Z Z (ai (ai (aG (ck O Z Z Z Z Z Z Z Z Z Z Z Z Z Z)) Z) (ai (ai (aD trivial (bU (own := false) (xs := w.facts.map Tm.cells) (ys := [Tm.cells t]) (zs := ((w.facts ++ [t])).map Tm.cells) (n := (w.facts ++ [t]).length) O Z Z Z Z Z Z Z Z Z Z Z Z Z Z Z Z (.row Z (bz _).symm) (.whole Z Z (.inr ⟨Z, Z⟩)) (by simp) Z (by simp; omega) (by simp; omega) (by simp) (by simp) Z)) Z) (ai (ai (aD trivial (V O Z)) Z) (ai (ai (aD trivial (V O Z)) Z) (ai (ai (aD trivial (aG (eS O Z Z Z))) Z) trivial))))))))))) ?_))
 refine jw [0,1] Z (b9 ?_)
 refine ah (j4 O Z Z Z Z (ac (fJ O Z Z (by simp only [ce, dj]; omega)) Z Z Z (js O Z (jf [21,0,1] Z (jn (ae O Z Z (fun hc21 => ?_) (fun hc21 => ?_)))))))
 refine ak (j3 O Z Z Z (jf [24,1] Z (jo O Z (au ?_))))
 refine jn ?_
 show _ ∧ _
 have hlo : (w.fact t).long = true := decide_eq_true (by show 12 < (w.facts ++ [t]).length; have := bC hc21; omega)
 rw [hlo, sI]
 refine ⟨.inr Z, _, af 13 509 Z Z, _, Z, Z, Z⟩
 refine aj ?_
 show _ ∧ _
 have hlo : (w.fact t).long = false := decide_eq_false (by show ¬ 12 < (w.facts ++ [t]).length; have := cH hc21; omega)
 rw [hlo, mF]
 refine ⟨.inr Z, _, af 13 509 Z Z, _, Z, Z, Z⟩
def cf : dp := fun t => (j9 [⟨7, []⟩, t] [1, -1], (j9 [⟨7, []⟩, t] [1, -1]).ok)
theorem uv {w : Pw} {t : Tm} {g : Gs} (ht : t.ok = true) : dy w (cf t).1 (dy w t g) = mq cf w t g := by
 simp only [dy, mq, cf, ht, Gs.goal, Gs.flag, Bool.not_true, Bool.or_false]
theorem zb {t : Tm} (ht : t.ok = true) : CtxOk [⟨7, []⟩, t] := by
 refine ⟨fun u hu => ?_, by simp⟩
 rcases List.mem_cons.1 hu with rfl | hu
 decide
 rcases List.mem_cons.1 hu with rfl | hu
 exact ht
 cases hu
theorem yC (ht : t.ok = true) (hg : g.conds.length + 2 ≤ L) : MQ h1 h2 155 [.c (.pt 0 0 0), .c (.pt 4 0 0), cL t] (iH c g frm w) (bc (.tup []) (Eu c (mq cf w t g) frm w)) := by
 refine aJ 500 Z (MC.keep [500,501,503,504,505,506,507,508] (bs := [iB c (mq cf w t g) 501 508 503, aN (mq cf w t g).paths, aZ c.num, iW frm w 505 506 507, aH w.vars, aH w.facts, aX w.ev, aM (mq cf w t g).conds]) Z Z (jH 20 [500,501,502,503,504,505,506,507] h1 h2 Tryz.func155 Z Z Z Z fun O hF => ?_))
 refine b9 ?_
 refine ah (jx O Z (au ?_))
 refine ay (Ent.freeze 5 (e' := [(5, _), (0, _), (1, _)]) Z (.cons Z (.c (.box (cs := Tm.cells t) Z (aE Z))) (fe [0,1] Z)) (.skip (.cons Z (.box (fk Z)) (.cons Z .row (.cons Z .row (.cons Z .map (.cons Z (.box (fk Z)) (.cons Z .row (.cons Z .row (.cons Z .row .nil)))))))))) ?_
 refine au ?_
 refine aV (j3 O Z Z Z (aB O [500,501,502,503,504,505,506,507] (bin := [iB c g 1 2 3, aN g.paths, aM g.conds, aZ c.num, iW frm w 5 6 7, aH w.vars, aH w.facts, aX w.ev]) Z Z Z Z (tn (c := c) (g := g) (frm := frm) (w := w) (t := t) h1 h2 (by omega)) Z Z Z Z Z Z (B0 := 11000) Z Z (au ?_)))
 refine jf [5,0,1] Z (aV (j2 O Z Z (AOps.heap (bE O Z Z Z Z Z Z Z Z Z Z Z) Z (au ?_))))
 refine ay (Ent.rowLe 13 Z (.cons (.cons .refl (.cons (.nil (sz := 1)) .nil)) (.cons (.cons .refl (.cons .refl .nil)) .nil))) (au ?_)
 refine au ?_
 refine jf [13,5,0,1] Z (AOps.heap (bA O Z Z Z) Z (au ?_))
 refine ay (Ent.freeze 13 (e' := [(14, _), (13, _), (0, _), (1, _)]) Z (.cons Z (.keep Z) (.cons Z (.c (.row Z Z)) (fe [0,1] Z))) (.skip (.cons Z .row (.cons Z (.box (fk Z)) (.cons Z .row (.cons Z .map (.cons Z (.box (fk Z)) (.cons Z .row (.cons Z .row (.cons Z .row (.cons Z .row .nil))))))))))) ?_
 refine ay (Ent.freeze 14 (e' := [(14, _), (13, _), (0, _), (1, _)]) Z (.cons Z (.c (.row Z Z)) (fe [13,0,1] Z)) (.skip (.cons Z (.box (fk Z)) (.cons Z .row (.cons Z .map (.cons Z (.box (fk Z)) (.cons Z .row (.cons Z .row (.cons Z .row (.cons Z .row .nil)))))))))) ?_
 refine au ?_
 refine ar O Z Z Z Z (y4 (ts := [⟨7, []⟩, t]) (ms := [1, -1]) h1 h2 (zb ht) (by decide) (cC _)) (aa Z) Z Z Z Z (B0 := 16000) Z Z (jf [15,0,1] Z (jl O Z (au ?_)))
 refine jo O Z (au ?_)
 refine jn (ak (j3 O Z Z Z (aB O [500,501,11008,503,504,505,506,507] (bin := [iB c (dy w t g) 1 2 3, aN (dy w t g).paths, aM (dy w t g).conds, aZ c.num, iW frm w 5 6 7, aH w.vars, aH w.facts, aX w.ev]) Z Z Z Z (tn (c := c) (g := (dy w t g)) (frm := frm) (w := w) (t := (cf t).1) h1 h2 (by simp only [dy, Gs.flag, Gs.goal, ce, dj]; omega)) Z Z Z Z Z Z (B0 := 20000) Z Z (au ?_))))
 refine jf [6,15,0,1] Z (jn ?_)
 show _ ∧ _
 rw [← uv ht]
 refine ⟨.inr Z, _, af 20008 508 Z Z, _, Z, Z, Z⟩
abbrev iHE (c : Pc) (g : Gs) (frm : Int) (w : Pw) : List (Nat × B) := [(0, iB c g 9 8 3), (3, aZ c.num), (4, iW frm w 5 6 7), (5, aH w.vars), (6, aH w.facts), (7, aX w.ev), (8, aM g.conds), (9, aN g.paths)]
theorem ub {w : Pw} {t : Tm} {g : Gs} : dy w (aQ t w.vars).1 (aY w t g) = bt w g t := by
 simp only [dy, fz, bt, Gs.flag, Bool.not_true, Bool.or_false]
theorem p8 {w : Pw} (hw : CtxOk w.vars) (hv : w.vars.length = 4) : eH w.vars 10 = true := by
 unfold eH
 rw [List.all_eq_true.2 hw.ok, decide_eq_true (by omega)]; rfl
theorem vp {to : Int} {fs : List Tm} (hw : CtxOk w.vars) (hv : w.vars.length = 4) (hf : TsOk fs) (hg : g.conds.length + fs.length ≤ L) (hp : g.paths.length + 1 ≤ L) : MQ h1 h2 154 [.c (.pt 0 0 0), .c (.pt 4 0 0), eI to, bN fs] (iH c g frm w) (bc (.tup []) (iHE c (dw frm w to fs g) frm w)) := by
 refine aJ 500 Z (MC.keep [500,503,504,505,506,507,508,509] (bs := [iB c (dw frm w to fs g) 509 508 503, aZ c.num, iW frm w 505 506 507, aH w.vars, aH w.facts, aX w.ev, aM (dw frm w to fs g).conds, aN (dw frm w to fs g).paths]) Z Z (jH 63 [500,501,502,503,504,505,506,507] h1 h2 Tryz.func154 Z Z Z Z fun O hF => ?_))
 refine b9 ?_
 have hpe : (fs.foldl (bt w) g).paths.length = g.paths.length := congrArg List.length f9
 have hva := p8 hw hv
 have hll : fs.length ≤ L := by omega
 refine ag (ah (js O Z (cu O Z (js O Z (jn (ao (aq (X := Nat) (fun i => ⟨[(0, .c (.pt 500 0 0)), (1, .c (.pt 504 0 0)), (2, eI to), (10, bN fs), (11, eI fs.length), (12, eI i)], [(500, iB c ((fs.take i).foldl (bt w) g) 501 902 503), (501, aN ((fs.take i).foldl (bt w) g).paths), (503, aZ c.num), (504, iW frm w 505 506 507), (505, aH w.vars), (506, aH w.facts), (507, aX w.ev), (902, aM ((fs.take i).foldl (bt w) g).conds)]⟩) (fun i => i ≤ fs.length) (fun i => fs.length - i) 0 (((aw [500,501,503,504,505,506,507,502] (e' := [(0, _), (1, _), (2, _), (10, _), (11, _), (12, _)]) Z Z ⟨Z, Z, Z, Z, Z, Z, trivial⟩ Z).trans (af 502 902 Z Z)).trans (Ent.to ⟨Z, Z, Z, Z, Z, Z, trivial⟩ Z)) ?_ (fun i hi => ?_))))))))
 exact ct _
 refine ah (js O Z (jn (ag (ae O Z Z (fun hc13 => ?_) (fun hc13 => ?_)))))
 refine aj (ag (ao (ah (iM O Z Z (js O Z (jf [15,13,0,1,2,10,11,12] Z (jl O Z (au ?_))))))))
 refine jo O Z (au ?_)
 refine jn (ak (j4 O Z Z Z Z (js O Z ?_)))
 have hil : i < fs.length := by have := bC hc13; omega
 have hfi := hf.get hil
 have hci := ky (w := w) (fs := fs.take i) (g := g)
 rw [List.length_take, Nat.min_eq_left (by omega)] at hci
 refine aB O [500,501,902,503,504,505,506,507] (bin := [iB c ((fs.take i).foldl (bt w) g) 1 2 3, aN ((fs.take i).foldl (bt w) g).paths, aM ((fs.take i).foldl (bt w) g).conds, aZ c.num, iW frm w 5 6 7, aH w.vars, aH w.facts, aX w.ev]) Z Z Z Z (mr (c := c) (g := ((fs.take i).foldl (bt w) g)) (frm := frm) (w := w) (t := (fs.getD i default)) h1 h2 hfi.1 hva (by omega)) Z Z Z Z Z Z (B0 := 22000) Z Z (au ?_)
 refine jf [21,17,16,9,15,13,0,1,2,10,11,12] Z (aB O [500,501,902,503,504,505,506,507] (bin := [iB c (aY w (fs.getD i default) ((fs.take i).foldl (bt w) g)) 1 2 3, aN (aY w (fs.getD i default) ((fs.take i).foldl (bt w) g)).paths, aM (aY w (fs.getD i default) ((fs.take i).foldl (bt w) g)).conds, aZ c.num, iW frm w 5 6 7, aH w.vars, aH w.facts, aX w.ev]) Z Z Z Z (tn (c := c) (g := (aY w (fs.getD i default) ((fs.take i).foldl (bt w) g))) (frm := frm) (w := w) (t := (aQ (fs.getD i default) w.vars).1) h1 h2 (show ((fs.take i).foldl (bt w) g).conds.length + 1 ≤ L by omega)) Z Z Z Z Z Z (B0 := 23000) Z Z (au ?_))
 refine jf [9,15,13,0,1,2,10,11,12] Z (jn (ak (ji O Z (js O Z (jn ?_)))))
 refine ⟨i + 1, ((aw [500,501,503,504,505,506,507,23008] (e' := [(0, _), (1, _), (2, _), (10, _), (11, _), (12, _)]) Z Z ⟨Z, Z, Z, Z, Z, Z, trivial⟩ Z).trans (af 23008 902 Z Z)).trans (Ent.to ⟨Z, Z, Z, Z, Z, Z, trivial⟩ (by rw [o9 hil, ← ub]; rfl)), by omega, by omega⟩
 refine aO (ag ?_)
 obtain rfl : i = fs.length := by have := cH hc13; omega
 rw [List.take_length]
 refine jA O [_,_,_,_,_,_,_,_,_,_,_,_,_,_,_,_,_,_,_,_,_,_,_,_,_,_,_,_,_,_,_] [pn [] 0 5, pn [] 0 4, pn [1] 0 4, pn [1,2] 0 4, pn [1,2,3] 0 4, pn [] 0 3, pn [5] 0 3, pn [5,6] 0 3, pn [5,6,7] 0 3, pn [] 0 3, pn [] 0 0, pn [10] 0 0, pn [10,11] 0 0, pn [10,11,12] 0 0, pe (rg 10 4) 0, pn [] 0 1, pn [15] 0 1, pn [15,16] 0 1, pn [15,16,17] 0 1, pe (rg 10 9) 1, pn [] 0 2, pn [20] 0 2, pn [20,21] 0 2, pn [20,21,22] 0 2, pe (rg 10 14) 2, pn (rg 5 20) 3 3, pe (rg 5 21) 3, pe (rg 1 26) 4, pn (rg 0 28) 5 5, pn (rg 0 29) 5 5, pe (rg 0 30) 5] [14,19,24,26,27,30] [_,_,_,_,_,_,_] [[], [], [], [39000,44000,49000], [501,50], []] (ai (ka O Z Z (ka O Z Z (ka O Z Z (ka O Z Z (ka O Z Z (kw O Z Z)))))) (ai (ka O Z Z (ka O Z Z (ka O Z Z (ka O Z Z (kw O Z Z))))) (ai (ka O Z Z (ka O Z Z (ka O Z Z (ka O Z Z (kw O Z Z))))) (ai (ka O Z Z (ka O Z Z (ka O Z Z (ka O Z Z (kw O Z Z))))) (ai (ka O Z Z (ka O Z Z (ka O Z Z (ka O Z Z (kw O Z Z))))) (ai (ka O Z Z (ka O Z Z (ka O Z Z (kw O Z Z)))) (ai (ka O Z Z (ka O Z Z (ka O Z Z (kw O Z Z)))) (ai (ka O Z Z (ka O Z Z (ka O Z Z (kw O Z Z)))) (ai (ka O Z Z (ka O Z Z (ka O Z Z (kw O Z Z)))) (ai (ka O Z Z (ka O Z Z (ka O Z Z (kw O Z Z)))) (ka O Z Z (ka O Z Z (ka O Z Z (ka O Z Z (ai (ai (aG (dg O (B0 := 39000) Z Z Z Z (xf (ts := w.facts) h1 h2) (.cons (.c (.whole Z (bz _).symm)) .nil) Z Z Z Z Z)) Z) (ai (ka O Z Z (kw O Z Z)) (ai (ka O Z Z (kw O Z Z)) (ai (ka O Z Z (kw O Z Z)) (ai (ka O Z Z (kw O Z Z)) (ai (ai (aG (dg O (B0 := 44000) Z Z Z Z (xf (ts := w.vars) h1 h2) (.cons (.c (.whole Z (bz _).symm)) .nil) Z Z Z Z Z)) Z) (ai (ka O Z Z (ka O Z Z (kw O Z Z))) (ai (ka O Z Z (ka O Z Z (kw O Z Z))) (ai (ka O Z Z (ka O Z Z (kw O Z Z))) (ai (ka O Z Z (ka O Z Z (kw O Z Z))) (ai (ai (aG (dg O (B0 := 49000) Z Z Z Z (ve (xs := w.ev) h1 h2) (.cons (.c (.whole Z (bz _).symm)) .nil) Z Z Z Z Z)) Z) (ka O Z Z (ai (ai (jv [39000,44000,49000] (ds := Pth.cells (⟨frm, to, w.facts, w.vars, w.ev⟩ : Pth)) O Z Z Z Z Z Z Z Z Z Z Z Z (fun e => .d Z (.d Z (.rs Z (bz _).symm (.rs Z (bz _).symm (.rs Z (bz _).symm .nil))))) Z Z) Z) (ai (ai (dm (xs := (fs.foldl (bt w) g).paths.map Pth.cells) (ys := [Pth.cells (⟨frm, to, w.facts, w.vars, w.ev⟩ : Pth)]) (zs := ((fs.foldl (bt w) g).paths ++ [(⟨frm, to, w.facts, w.vars, w.ev⟩ : Pth)]).map Pth.cells) (n := ((fs.foldl (bt w) g).paths ++ [(⟨frm, to, w.facts, w.vars, w.ev⟩ : Pth)]).length) O Z Z Z Z Z Z Z Z Z Z Z Z Z Z Z Z (.row Z (bz _).symm) Z Z (by decide) Z (by simp; omega) (by simp; omega) (by simp) (by simp) Z) Z) (ka O Z Z (ka O Z Z (ai (ai (aG (eS O Z Z Z)) Z) trivial))))))))))))))))))))))))))))))) ?_
 refine jw [13,0,1,2,10,11,12] Z (b9 ?_)
 refine ah (j4 O Z Z Z Z (ac (fJ O Z Z (by simp only [ce, dj]; omega)) Z Z Z (js O Z (jf [59,13,0,1,2,10,11,12] Z (jn (ae O Z Z (fun hc59 => ?_) (fun hc59 => ?_)))))))
 refine ak (j3 O Z Z Z (jf [62,59,13,0,1,2,10,11,12] Z (jo O Z (au ?_))))
 refine jn ?_
 show _ ∧ _
 have hlo : decide (200 < (fs.foldl (bt w) g).paths.length + 1) = true := decide_eq_true (by show 200 < (fs.foldl (bt w) g).paths.length + 1; have := bC hc59; rw [ce, dj] at this; omega)
 rw [show (dw frm w to fs g) = ⟨(fs.foldl (bt w) g).paths ++ [(⟨frm, to, w.facts, w.vars, w.ev⟩ : Pth)], (fs.foldl (bt w) g).conds, true⟩ by unfold dw iG; rw [hlo]; simp]
 refine ⟨.inr Z, _, (af 51 509 Z Z).trans (af 902 508 Z Z), _, Z, Z, Z⟩
 refine aj ?_
 show _ ∧ _
 have hlo : decide (200 < (fs.foldl (bt w) g).paths.length + 1) = false := decide_eq_false (by show ¬ 200 < (fs.foldl (bt w) g).paths.length + 1; have := cH hc59; rw [ce, dj] at this; omega)
 rw [show (dw frm w to fs g) = ⟨(fs.foldl (bt w) g).paths ++ [(⟨frm, to, w.facts, w.vars, w.ev⟩ : Pth)], (fs.foldl (bt w) g).conds, (fs.foldl (bt w) g).bad⟩ by unfold dw iG; rw [hlo]; simp]
 refine ⟨.inr Z, _, (af 51 509 Z Z).trans (af 902 508 Z Z), _, Z, Z, Z⟩
theorem zX (hs : w.sym = 10) : MQ h1 h2 156 [.c (.pt 0 0 0), .c (.pt 4 0 0)] (iH c g frm w) (bc (.agg [.d (.int .i64 0), .d .nils]) (iH c (⟨g.paths, g.conds, true⟩ : Gs) frm w)) := by
 refine aJ 500 Z (MC.keep [500,501,502,503,504,505,506,507] (bs := [iB c (⟨g.paths, g.conds, true⟩ : Gs) 501 502 503, aN (⟨g.paths, g.conds, true⟩ : Gs).paths, aM (⟨g.paths, g.conds, true⟩ : Gs).conds, aZ c.num, iW frm w 505 506 507, aH w.vars, aH w.facts, aX w.ev]) Z Z (jH 27 [500,501,502,503,504,505,506,507] h1 h2 Tryz.func156 Z Z Z Z fun O hF => ?_))
 refine b9 ?_
 refine ah (jl O Z (au ?_))
 refine jn (ag (ah (j4 O Z Z Z Z (js O Z (jf [9,4,0,1] Z (jn (ae O Z Z (fun hc9 => ?_) (fun hc9 => ?_))))))))
 refine ah (j3 O Z Z Z (jf [12,4,1] Z (jo O Z (au ?_))))
 refine aV (js O Z (jo O Z (au ?_)))
 refine jr ?_
 refine ⟨.inl Z, _, am, _, Z, Z, Z⟩
 exact absurd (cH hc9) (by omega)
theorem Cv (hs : w.sym < 10) : MQ h1 h2 156 [.c (.pt 0 0 0), .c (.pt 4 0 0)] (iH c g frm w) (bc (cL (lA w.sym)) (iH c g frm (⟨w.vars, w.facts, w.ev, w.sym + 1⟩ : Pw))) := by
 refine aJ 500 Z (MC.keep [500,501,502,503,504,505,506,507] (bs := [iB c g 501 502 503, aN g.paths, aM g.conds, aZ c.num, iW frm (⟨w.vars, w.facts, w.ev, w.sym + 1⟩ : Pw) 505 506 507, aH (⟨w.vars, w.facts, w.ev, w.sym + 1⟩ : Pw).vars, aH (⟨w.vars, w.facts, w.ev, w.sym + 1⟩ : Pw).facts, aX (⟨w.vars, w.facts, w.ev, w.sym + 1⟩ : Pw).ev]) Z Z (jH 27 [500,501,502,503,504,505,506,507] h1 h2 Tryz.func156 Z Z Z Z fun O hF => ?_))
 refine b9 ?_
 refine ah (jl O Z (au ?_))
 refine jn (ag (ah (j4 O Z Z Z Z (js O Z (jf [9,4,0,1] Z (jn (ae O Z Z (fun hc9 => ?_) (fun hc9 => ?_))))))))
 exact absurd (bC hc9) (by omega)
 refine aj (ah (j4 O Z Z Z Z (ac ((vF O Z).cast (v' := eI ((w.sym + 1 : Nat) : Int)) (congrArg eI (by omega))) Z Z Z (j2 O Z Z (jf [20,18,4,0,1] Z (jo O Z (au ?_)))))))
 refine jf [4,0,1] Z (aV (j4 O Z Z Z Z (ac ((vF O Z).cast (v' := eI ((w.sym : Nat) : Int)) (congrArg eI (by omega))) Z Z Z (jf [25,4,0,1] Z (ar O Z Z Z Z (yD (k := w.sym) h1 h2 hs) (aa Z) Z Z Z Z (B0 := 27000) Z Z (jf [26,4,0,1] Z (jo O Z (au ?_))))))))
 refine jr ?_
 refine ⟨.inl Z, _, am, _, Z, Z, Z⟩
theorem Cj {c : Tm} {r : List Tm} (hl : (c :: r).length ≤ 1000) : MQ h1 h2 152 [.c (.rs 0 0 (c :: r).length)] [(0, aH (c :: r))] (bc (.c (.rs 1 0 (c :: r).length)) [(0, aH (c :: r)), (1, aH (c :: r))]) := by
 refine aJ 500 Z (MC.keep [500,501] (bs := [aH (c :: r), aH (c :: r)]) Z Z (jH 8 [500] h1 h2 Tryz.func152 Z Z Z Z fun O hF => ?_))
 refine b9 ?_
 refine ah (js O Z (jn (ag (ah (j2 O Z Z (jn (ae O Z Z (fun hc4 => ?_) (fun hc4 => ?_))))))))
 exact absurd (show false = true from hc4) (by decide)
 refine aj (ah (AOps.heap (bA O Z Z Z) Z (au ?_)))
 refine js O Z (jf [6,5,3,2,0] Z ?_)
 have hl2 := hl
 simp only [dL] at hl2
 refine ay (cZ 5 Z) (AOps.heap (aU (own := false) (zs := (c :: r).map Tm.cells) (n := (c :: r).length) O Z Z Z Z Z Z Z Z Z Z Z Z Z Z Z Z (.row Z Z) (.whole Z (by simp) (.inr ⟨Z, Z⟩)) (by simp) Z (by simp; omega) (by simp; omega) Z (by simp)) Z (au ?_))
 refine js O Z (jf [2,3,0] Z (jr ?_))
 refine ⟨.inl Z, _, af 7 501 Z Z, _, Z, Z, Z⟩
theorem Ch : MQ h1 h2 152 [.c (.rs 0 0 0)] [(0, aH [])] (bc (.c (.rs 1 0 0)) [(0, aH []), (1, aH [])]) := by
 refine aJ 500 Z (MC.keep [500,501] (bs := [aH [], aH []]) Z Z (jH 8 [500] h1 h2 Tryz.func152 Z Z Z Z fun O hF => ?_))
 refine b9 ?_
 refine ah (js O Z (jn (ag (ah (js O Z (mP O Z Z Z Z Z Z Z Z Z Z (fun b => ?_)))))))
 refine jn (ae O Z Z (fun hc4 => ?_) (fun hc4 => ?_))
 refine ah (js O Z (jr ?_))
 refine ⟨.inl Z, _, cb 2 501 2 false Z Z, _, Z, Z, Z⟩
 refine aj (ah (AOps.heap (bA O Z Z Z) Z (au ?_)))
 refine js O Z (jf [6,5,3,2,0] Z (ay (cZ 5 Z) (AOps.heap (aU (own := false) (zs := []) (n := 0) O Z Z Z Z Z Z Z Z Z Z Z Z Z Z Z Z (.row Z Z) (.whole Z (by simp) (.inr ⟨Z, Z⟩)) (by simp) Z (by simp) (by simp) Z (by simp)) Z (au ?_))))
 refine js O Z (jf [2,3,0] Z (jr ?_))
 refine ⟨.inl Z, _, af 7 501 Z Z, _, Z, Z, Z⟩
theorem yy {L : Nat} (h1 : 4096 ≤ L) (h2 : L ≤ 1073741824) {ts : List Tm} (hl : ts.length ≤ 1000) : MC Tryz.prog L 152 [.c (.rs 0 0 ts.length)] [(0, aH ts)] (bc (.c (.rs 1 0 ts.length)) [(0, aH ts), (1, aH ts)]) := by
 cases ts with
 | nil => exact Ch h1 h2
 | cons c r => exact Cj h1 h2 hl
theorem zT {c : Int} {r : List Int} (hl : (c :: r).length ≤ 1000) : MQ h1 h2 192 [.c (.rs 0 0 (c :: r).length)] [(0, aX (c :: r))] (bc (.c (.rs 1 0 (c :: r).length)) [(0, aX (c :: r)), (1, aX (c :: r))]) := by
 refine aJ 500 Z (MC.keep [500,501] (bs := [aX (c :: r), aX (c :: r)]) Z Z (jH 8 [500] h1 h2 Tryz.func192 Z Z Z Z fun O hF => ?_))
 refine b9 ?_
 refine ah (js O Z (jn (ag (ah (j2 O Z Z (jn (ae O Z Z (fun hc4 => ?_) (fun hc4 => ?_))))))))
 exact absurd (show false = true from hc4) (by decide)
 refine aj (ah (AOps.heap (bA O Z Z Z) Z (au ?_)))
 refine js O Z (jf [6,5,3,2,0] Z ?_)
 have hl2 := hl
 simp only [dL] at hl2
 refine AOps.heap (aU (own := true) (zs := (c :: r).map (fun n => [D.int .i64 n])) (n := (c :: r).length) O Z Z Z Z Z Z Z Z Z Z Z Z Z Z Z Z (.row Z Z) (.whole Z (by simp) (.inl (Scal.map (fun a => rfl)))) (by simp) Z (by simp; omega) (by simp; omega) Z (by simp)) Z (au ?_)
 refine js O Z (jf [2,3,0] Z (jr ?_))
 refine ⟨.inl Z, _, af 7 501 Z Z, _, Z, Z, Z⟩
theorem zS : MQ h1 h2 192 [.c (.rs 0 0 0)] [(0, aX [])] (bc (.c (.rs 1 0 0)) [(0, aX []), (1, aX [])]) := by
 refine aJ 500 Z (MC.keep [500,501] (bs := [aX [], aX []]) Z Z (jH 8 [500] h1 h2 Tryz.func192 Z Z Z Z fun O hF => ?_))
 refine b9 ?_
 refine ah (js O Z (jn (ag (ah (js O Z (mP O Z Z Z Z Z Z Z Z Z Z (fun b => ?_)))))))
 refine jn (ae O Z Z (fun hc4 => ?_) (fun hc4 => ?_))
 refine ah (js O Z (jr ?_))
 refine ⟨.inl Z, _, cb 2 501 1 true Z Z, _, Z, Z, Z⟩
 refine aj (ah (AOps.heap (bA O Z Z Z) Z (au ?_)))
 refine js O Z (jf [6,5,3,2,0] Z (AOps.heap (aU (own := true) (zs := []) (n := 0) O Z Z Z Z Z Z Z Z Z Z Z Z Z Z Z Z (.row Z Z) (.whole Z (by simp) (.inl (Scal.map (fun a => rfl)))) (by simp) Z (by simp) (by simp) Z (by simp)) Z (au ?_)))
 refine js O Z (jf [2,3,0] Z (jr ?_))
 refine ⟨.inl Z, _, af 7 501 Z Z, _, Z, Z, Z⟩
theorem zR {L : Nat} (h1 : 4096 ≤ L) (h2 : L ≤ 1073741824) {ts : List Int} (hl : ts.length ≤ 1000) : MC Tryz.prog L 192 [.c (.rs 0 0 ts.length)] [(0, aX ts)] (bc (.c (.rs 1 0 ts.length)) [(0, aX ts), (1, aX ts)]) := by
 cases ts with
 | nil => exact zS h1 h2
 | cons c r => exact zT h1 h2 hl
theorem Cg : MQ h1 h2 152 [.c (.d .nils)] [] (Plain (.c (.d .nils))) := by
 refine jB 8 h1 h2 Tryz.func152 Z Z Z fun O hF => ?_
 refine ah (js O Z (jn (ag (ah (j2 O Z Z (jn (ae O Z Z (fun hc4 => ?_) (fun hc4 => ?_))))))))
 refine ah (js O Z (jr ?_))
 refine ⟨.inl Z, _, am, _, Z, ?_⟩
 exact ⟨Z, Z⟩
 exact absurd (show true = false from hc4) (by decide)
abbrev wA (frm : Int) (w : Pw) (i j k : Nat) : A := .agg [.d (.int .i64 frm), .rs i 0 w.vars.length, .d .nils, .rs j 0 w.facts.length, .rs k 0 w.ev.length, .d (.int .i64 (w.sym : Int))]
theorem tk (hv : w.vars.length ≤ 1000) (hl : w.facts.length ≤ 1000) (he : w.ev.length ≤ 1000) : MQ h1 h2 163 [wA frm w 0 1 2] [(0, aH w.vars), (1, aH w.facts), (2, aX w.ev)] (bc (wA frm w 3 4 5) [(0, aH w.vars), (1, aH w.facts), (2, aX w.ev), (3, aH w.vars), (4, aH w.facts), (5, aX w.ev)]) := by
 refine aJ 500 Z (MC.keep [500,501,502,503,504,505] (bs := [aH w.vars, aH w.facts, aX w.ev, aH w.vars, aH w.facts, aX w.ev]) Z Z (jH 20 [500,501,502] h1 h2 Tryz.func163 Z Z Z Z fun O hF => ?_))
 refine b9 ?_
 refine ah (jx O Z (au ?_))
 refine jf [1] Z (jl O Z (au ?_))
 refine jn (ag (gL O [_,_,_,_,_,_,_,_,_,_,_,_,_,_,_,_,_,_,_,_] [pn [] 0 0, pn [0] 0 0, pe [0,1] 0, pn [] 0 1, pn [3] 0 1, pe (rg 0 5) 1, pn [] 0 2, pn [6] 0 2, pe (rg 0 8) 2, pn [] 0 3, pn [9] 0 3, pe (rg 0 11) 3, pn [0,1,2,3,4,6,7,9,10] 1 4, pe (rg 0 13) 4, pn (rg 0 14) 5 5, pe (rg 0 15) 5, pn (rg 0 16) 6 6, pe (rg 0 17) 6, pn (rg 0 18) 7 7, pe (rg 0 19) 7] [2,5,8,11,13,15,17,19] [_,_,_,_,_,_,_,_,_] (kc O Z (kc O Z (ai (cE O [500] (bin := [aH w.vars]) Z Z Z Z (yy h1 h2 hv) Z Z Z Z Z (B0 := 6000) Z Z Z Z Z Z) (ai (kc O Z (V O Z)) (ai (kc O Z (V O Z)) (ai (bw O (B0 := 9000) Z Z Z Z (Cg h1 h2) (aa Z) Z Z Z Z Z) (ai (kc O Z (kc O Z (V O Z))) (ai (kc O Z (kc O Z (V O Z))) (ai (cE O [501] (bin := [aH w.facts]) Z Z Z Z (yy h1 h2 hl) Z Z Z Z Z (B0 := 12000) Z Z Z Z Z Z) (ai (kc O Z (kc O Z (kc O Z (V O Z)))) (ai (kc O Z (kc O Z (kc O Z (V O Z)))) (ai (cE O [502] (bin := [aX w.ev]) Z Z Z Z (zR h1 h2 he) Z Z Z Z Z (B0 := 15000) Z Z Z Z Z Z) (ai (kc O Z (kc O Z (kc O Z (V O Z)))) (ai (eS O Z Z Z) (kc O Z (ai (eS O Z Z Z) (kc O Z (ai (eS O Z Z Z) (kc O Z (ai (eS O Z Z Z) trivial)))))))))))))))))))) ?_))
 refine jw [2,1] Z (b9 ?_)
 refine ah (js O Z (jo O Z (au ?_)))
 refine jr ?_
 refine ⟨.inl Z, _, ((af 6001 503 Z Z).trans (af 12001 504 Z Z)).trans (af 15001 505 Z Z), _, Z, Z, Z⟩
theorem v9 {ok : Bool} : MQ h1 h2 161 [.c (.pt 0 0 0), cL t, eB ok] [(0, iB c g 1 2 3), (1, aN g.paths), (2, aM g.conds), (3, aZ c.num)] (bc (cL t) [(0, iB c (g.flag (!ok)) 1 2 3), (1, aN (g.flag (!ok)).paths), (2, aM (g.flag (!ok)).conds), (3, aZ c.num)]) := by
 refine aJ 500 Z (MC.keep [500,501,502,503] (bs := [iB c (g.flag (!ok)) 501 502 503, aN (g.flag (!ok)).paths, aM (g.flag (!ok)).conds, aZ c.num]) Z Z (jH 13 [500,501,502,503] h1 h2 Tryz.func161 Z Z Z Z fun O hF => ?_))
 refine b9 ?_
 refine ah (jx O Z (au ?_))
 refine jf [4,0,2] Z (jl O Z (au ?_))
 refine jn (ag (ah (j2 O Z Z (jf [8,6,4,0] Z (jn (ae O Z Z (fun hc8 => ?_) (fun hc8 => ?_)))))))
 refine ak (j3 O Z Z Z (jf [11,6,4] Z (jo O Z (au ?_))))
 refine aV (js O Z (jf [12,11,6] Z (jo O Z (au ?_))))
 refine jr ?_
 have hok : ok = false := by simpa using hc8
 subst hok
 rw [show g.flag (!false) = ⟨g.paths, g.conds, true⟩ from jU]
 refine ⟨.inl Z, _, am, _, Z, Z, Z⟩
 refine aj (ah (js O Z (jf [12,6,0] Z (jo O Z (au ?_)))))
 refine jr ?_
 have hok : ok = true := by simpa using hc8
 subst hok
 rw [show g.flag (!true) = g from ga]
 refine ⟨.inl Z, _, am, _, Z, Z, Z⟩
end Go.Al
