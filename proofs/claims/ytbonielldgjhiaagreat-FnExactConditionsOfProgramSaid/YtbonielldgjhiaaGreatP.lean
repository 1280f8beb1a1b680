/- The program: goals, facts, ends of paths, copies. -/
import Derived.Test.YtbonielldgjhiaaGreatM
set_option linter.unusedVariables false
set_option linter.unusedSimpArgs false
set_option maxRecDepth 10000
set_option maxHeartbeats 4000000
open Go.Proofs
namespace Go.Al
variable {L : Nat} (h1 : 4096 ≤ L) (h2 : L ≤ 1073741824)
theorem tz {t : Tm} : MQ h1 h2 131 [cZ t] [] (Rows (.tup [.agg [.d (.int .i64 (kk t).1.c), .rs 0 0 (kk t).1.xs.length], eB (kk t).2]) [ba (kk t).1.xs]) := by
 refine bF (jB 10 h1 h2 Tryz.func131 Z Z Z fun O hF => ?_)
 refine ag (jx O Z Z Z Z Z Z Z Z (aq ?_))
 refine jf [1] Z (jl O Z Z Z Z Z Z (aq ?_))
 refine js O Z (jn (AWP.seq (ag (js O Z (ae O Z Z Z Z (mJ (t := t) h1 h2) (ab Z) Z Z Z Z Z (B0 := 6000) Z (js O Z (jf [6,3,2,1] Z (jn (AWP.cond O Z Z (fun hc6 => ?_) (fun hc6 => ?_))))))))))
 refine ag (js O Z (jf [7,3,2,1] Z (jo O Z Z Z Z Z Z Z Z Z Z Z Z (aq ?_))))
 refine js O Z (jn (AWP.ret ?_))
 have hok : t.ok = false := by simpa using hc6
 rw [show kk t = (⟨0, []⟩, false) from if_neg (by rw [hok]; decide)]
 refine ⟨.inl Z, _, cE 2 900 1 true 1 Z Z Z, _, Z, [900], by decide, Z, Z, Z⟩
 refine AWP.skip (ag (js O Z (jf [8,3,2,1] Z (aU O (B0 := 10000) Z Z Z Z (oP (t := t) h1 h2) (ab Z) Z Z Z Z Z Z (aq ?_)))))
 refine jf [9,3,2,1] Z (jo O Z Z Z Z Z Z Z Z Z Z Z Z (aq ?_))
 refine js O Z (jn (AWP.ret ?_))
 have hok : t.ok = true := by simpa using hc6
 rw [show kk t = (t, true) from if_pos hok]
 refine ⟨.inl Z, _, Ent.refl, _, Z, [10000], by decide, Z, Z, Z⟩
theorem tA {t : Tm} {vs : List Tm} (ht : t.ok = true) (hv : ea vs 10 = true) (hle : t.xs.length ≤ vs.length) : MQ h1 h2 116 [cZ t, cr vs] [] (Rows (.tup [.agg [.d (.int .i64 (aG t vs).1.c), .rs 0 0 (aG t vs).1.xs.length], eB (aG t vs).2]) [ba (aG t vs).1.xs]) := by
 refine bF (jB 64 h1 h2 Tryz.func116 Z Z Z fun O hF => ?_)
 have htl := kn ht
 refine ag (jx O Z Z Z Z Z Z Z Z (aq ?_))
 refine jf [2,1] Z (jl O Z Z Z Z Z Z (aq ?_))
 refine js O Z (jn (AWP.seq (ag (js O Z (ae O Z Z Z Z (mJ (t := t) h1 h2) (ab Z) Z Z Z Z Z (B0 := 13000) Z (j2 O Z Z (jf [14,5,4,2,1] Z (au 3 Z Z Z (fun hx => ac hx Z Z Z (V O Z) Z Z ( bv O hx Z Z Z Z (uO (ts := vs) (n := 10) h1 h2) (ab Z) Z Z Z Z Z Z Z (B0 := 17000) Z ( ac hx Z Z Z (V O Z) Z Z ( AN.nil)))) Z Z ?_))))))))
 first | refine aa (aj O Z Z Z Z Z) Z Z Z ?_ | refine aa (Val.pickB O Z Z Z Z Z) Z Z Z ?_ | refine aa (ak O Z Z Z Z Z) Z Z Z ?_
 refine jf [18,5,4,2,1] Z (jn (AWP.cond O Z Z (fun hc18 => ?_) (fun hc18 => ?_)))
 exact absurd hc18 (by rw [hv, ht]; decide)
 refine AWP.skip (ag (j3 O Z Z Z (jf [22,5,4,2,1] Z (AOps.heap (dO O Z Z Z Z Z Z Z Z Z Z Z) Z (aq ?_)))))
 refine aA (Ent.rowLe 23 Z (.cons (.cons .refl (.cons (.nil (sz := 1)) .nil)) .nil)) (aq ?_)
 refine aq ?_
 refine jf [23,5,4,2,1] Z (AOps.heap (bE O Z Z Z) Z (aq ?_))
 refine j2 O Z Z (jf [7,6,5,4,2,1] Z (jn (AWP.seq (ag (j2 O Z Z ?_)))))
 first | refine cy O Z Z Z Z Z Z Z Z Z Z Z ?_ | refine js O Z ?_ | refine aY O Z Z Z Z Z ?_
 refine js O Z (jn (AWP.block (az (X := Nat) (fun i => ⟨[(1, cr vs), (2, .c (.pt 2 0 0)), (4, .c (.pt 4 0 0)), (6, .c (.rs 906 0 (i + 1))), (7, .c (.rs 907 0 (i + 1))), (26, cD t.xs), (27, eI t.xs.length), (28, eI i)], [(2, .box [.d (.int .i64 t.c), .d (bp t.xs)]), (4, .box [.d (.int .i64 0), .d .nils]), (906, .row false 2 ((⟨t.c, []⟩ :: vs.take i).map Tm.cells)), (907, ba (1 :: t.xs.take i))]⟩) (fun i => i ≤ t.xs.length) (fun i => t.xs.length - i) 0 ((((aT [2,4,23,24] (e' := [(1, _), (2, _), (4, _), (6, _), (7, _), (26, _), (27, _), (28, _)]) Z Z ⟨Z, Z, Z, Z, Z, Z, Z, Z, trivial⟩ Z).trans (af 23 906 Z Z)).trans (af 24 907 Z Z)).trans (Ent.to ⟨Z, Z, Z, Z, Z, Z, Z, Z, trivial⟩ Z)) ?_ (fun i hi => ?_))))
 exact Nat.zero_le _
 refine ag (js O Z (jn (AWP.seq (AWP.cond O Z Z (fun hc29 => ?_) (fun hc29 => ?_)))))
 refine AWP.skip (AWP.seq (AWP.block (ag (js O Z ?_))))
 first | refine oE O Z Z Z Z Z Z Z Z Z Z Z ?_ | refine dR O Z Z Z Z Z Z Z Z Z Z Z ?_ | refine aY O Z Z Z Z Z ?_
 refine j3 O Z Z Z (jf [9,8,29,1,2,4,6,7,26,27,28] Z (aP ?_))
 have hil : i < t.xs.length := by have := of_decide_eq_true hc29; omega
 have hvl : vs.length ≤ 10 := by have := (nR hv).2; omega
 refine js O Z ?_
 first | refine ji O Z ?_ | refine aY O Z Z Z Z Z ?_
 refine jf [34,9,8,29,1,2,4,6,7,26,27,28] Z (AOps.heap (er O Z Z Z Z Z Z Z Z Z (by first | omega | (simp at *; omega)) (by first | omega | (simp at *; omega)) (by first | omega | (simp at *; omega)) (by first | omega | (dsimp only; omega) | (simp only [List.length_map, beq_iff_eq, decide_eq_true_eq, decide_eq_false_iff_not, Bool.not_eq_true', Bool.not_eq_false', Bool.not_true, Bool.not_false, Int.not_lt, Int.not_le] at *; omega)) (by first | omega | (simp at *; omega)) Z Z Z) Z (aq ?_))
 refine js O Z (jf [36,9,8,29,1,2,4,6,7,26,27,28] Z (jl O Z Z Z Z Z Z (aq ?_)))
 refine jo O Z Z Z Z Z Z Z Z Z Z Z Z (aq ?_)
 refine aP (j3 O Z Z Z ?_)
 first | refine oE O Z Z Z Z Z Z Z Z Z Z Z ?_ | refine dR O Z Z Z Z Z Z Z Z Z Z Z ?_ | refine aY O Z Z Z Z Z ?_
 refine jf [40,10,36,9,8,29,1,2,4,6,7,26,27,28] Z (AOps.heap (bq (ex := [.int .i64 0]) (xs' := ((List.replicate i 0 ++ [1] : List Int)).map (fun n => [D.int .i64 n])) O Z Z Z Z Z Z Z Z Z Z Z Z Z Z ke kd) Z (aq ?_))
 refine jn (AWP.seq (ag (j2 O Z Z ?_)))
 first | refine cy O Z Z Z Z Z Z Z Z Z Z Z ?_ | refine js O Z ?_ | refine aY O Z Z Z Z Z ?_
 refine js O Z (jf [44,40,10,36,9,8,29,1,2,4,6,7,26,27,28] Z (jn (AWP.cond O Z Z (fun hc44 => ?_) (fun hc44 => ?_))))
 refine AWP.region (j2 O Z Z ?_)
 first | refine oE O Z Z Z Z Z Z Z Z Z Z Z ?_ | refine dR O Z Z Z Z Z Z Z Z Z Z Z ?_ | refine aY O Z Z Z Z Z ?_
 refine js O Z (jf [48,44,40,10,36,9,8,29,1,2,4,6,7,26,27,28] Z (jo O Z Z Z Z Z Z Z Z Z Z Z Z (aq ?_)))
 refine jn (AWP.region (j2 O Z Z (AOps.heap (dO O Z Z Z Z Z Z Z Z Z Z Z) Z (aq ?_))))
 refine jf [51,49,48,44,40,10,36,9,8,29,1,2,4,6,7,26,27,28] Z (AOps.heap (bD (own := false) (xs := ((⟨t.c, []⟩ : Tm) :: vs.take i).map Tm.cells) (ys := [Tm.cells (vs.getD i default)]) (zs := ((⟨t.c, []⟩ : Tm) :: vs.take (i + 1)).map Tm.cells) (n := i + 2) O Z Z Z Z Z Z Z Z Z Z Z Z Z Z Z Z (.row Z (by simp; omega)) (.whole Z Z (.inr ⟨Z, Z⟩)) (by simp) Z (by simp; omega) (by simp; omega) (by rw [List.take_succ_eq_append_getElem (by omega), ← List.cons_append, List.map_append, aI (by omega)]; rfl) (by simp; omega)) Z (aq ?_))
 refine aA (aT [2,4,52,907] (e' := [(52, _), (9, _), (7, _), (1, _), (2, _), (4, _), (26, _), (27, _), (28, _)]) Z Z ⟨Z, Z, Z, Z, Z, Z, Z, Z, Z, trivial⟩ Z) (aq ?_)
 refine j2 O Z Z (jf [54,53,52,7,1,2,4,26,27,28] Z (AOps.heap (bE O Z Z Z) Z (aq ?_)))
 refine jf [55,53,52,7,1,2,4,26,27,28] Z (AOps.heap (cX (zs := (1 :: t.xs.take (i + 1)).map fun n => [.int .i64 n]) (n := i + 2) O Z Z Z Z Z Z Z Z Z Z Z Z Z Z Z Z (.row Z (by simp; omega)) Z Z (by decide) Z (by simp; omega) (by simp; omega) (by rw [show t.xs.take (i + 1) = t.xs.take i ++ [t.xs.getD i default] by rw [List.take_succ_eq_append_getElem (by omega), aI (by omega)], ← List.cons_append, List.map_append]; rfl) (by simp; omega)) Z (aq ?_))
 refine j2 O Z Z (jf [7,6,1,2,4,26,27,28] Z (jn (AWP.region ?_)))
 first | refine ji O Z ?_ | refine aY O Z Z Z Z Z ?_
 refine js O Z (jn ?_)
 refine ⟨i + 1, (((aT [2,4,52,56] (e' := [(1, _), (2, _), (4, _), (6, _), (7, _), (26, _), (27, _), (28, _)]) Z Z ⟨Z, Z, Z, Z, Z, Z, Z, Z, trivial⟩ Z).trans (af 52 906 Z Z)).trans (af 56 907 Z Z)), by omega, by omega⟩
 exact absurd hc44 (by simp; omega)
 refine AWP.exit (ag ?_)
 have hvl : vs.length ≤ 10 := by have := (nR hv).2; omega
 obtain rfl : i = t.xs.length := by have := of_decide_eq_false hc29; omega
 rw [List.take_length]
 refine aA (Ent.freeze 906 (e' := [(6, _), (7, _), (4, _), (2, _)]) Z (.cons Z (.c (.row Z (by simp; omega))) (.cons Z (.keep Z) (.cons Z (.keep Z) (.cons Z (.keep Z) .nil)))) (.cons Z (.box (.cons (.keep Z) (.cons (.keep Z) .nil))) (.cons Z (.box (.cons (.keep Z) (.cons (.keep Z) .nil))) (.skip (.cons Z .row .nil))))) ?_
 refine aA (Ent.freeze 907 (e' := [(6, _), (7, _), (4, _), (2, _)]) Z (.cons Z (.keep Z) (.cons Z (.c (.row Z (by simp))) (.cons Z (.keep Z) (.cons Z (.keep Z) .nil)))) (.cons Z (.box (.cons (.keep Z) (.cons (.keep Z) .nil))) (.cons Z (.box (.cons (.keep Z) (.cons (.keep Z) .nil))) (.skip .nil)))) ?_
 refine j2 O Z Z (ao O Z Z Z Z (sW (ts := ⟨t.c, []⟩ :: vs.take t.xs.length) (ms := 1 :: t.xs) h1 h2 (rU ht hv) (by have := (Small.of ht).xs; rw [List.all_cons, this]; decide) (by simp; omega)) (ab Z) Z Z Z Z (B0 := 61000) Z Z (jf [60,6,7,4,2] Z (aU O (B0 := 62000) Z Z Z Z (tz (t := gY (⟨t.c, []⟩ :: vs.take t.xs.length) (1 :: t.xs)) h1 h2) (ab Z) Z Z Z Z Z Z (aq ?_))))
 refine j2 O Z Z (jf [63,62,6,7,4,2] Z (jo O Z Z Z Z Z Z Z Z Z Z Z Z (aq ?_)))
 refine js O Z (jf [5,6,7,4,2] Z (jn (AWP.ret ?_)))
 rw [← qY]
 refine ⟨.inl Z, _, Ent.refl, _, Z, [62000], by decide, Z, Z, Z⟩
structure Pc where
  post : D
  starts : D
  body : D
  loops : D
  behind : D
  num : List (Int × D)
abbrev ax (ps : List Pth) : B := .row true 5 (ps.map Pth.cells)
abbrev ay (ss : List Sq) : B := .row true 3 (ss.map Sq.cells)
abbrev iB (c : Pc) (g : Gs) (i j k : Nat) : B := .box [.d c.post, .d c.starts, .rs i 0 g.paths.length, .rs j 0 g.conds.length, .d (.bool g.bad), .d c.body, .d c.loops, .d c.behind, .mp k]
abbrev iW (frm : Int) (w : Pw) (i j k : Nat) : B := .box [.d (.int .i64 frm), .rs i 0 w.vars.length, .d .nils, .rs j 0 w.facts.length, .rs k 0 w.ev.length, .d (.int .i64 (w.sym : Int))]
abbrev iH (c : Pc) (g : Gs) (frm : Int) (w : Pw) : List (Nat × B) := [(0, iB c g 1 2 3), (1, ax g.paths), (2, ay g.conds), (3, aL c.num), (4, iW frm w 5 6 7), (5, aE w.vars), (6, aE w.facts), (7, ba w.ev)]

theorem vy {c : Pc} {g : Gs} {k : Int} {xs : List Int} {ok : Bool} : MQ h1 h2 113 [.c (.pt 0 0 0), (.agg [.d (.int .i64 k), .rs 4 0 xs.length]), eB ok] [(0, iB c g 1 2 3), (1, ax g.paths), (2, ay g.conds), (3, aL c.num), (4, ba xs)] (aZ (.agg [.d (.int .i64 k), .rs 4 0 xs.length]) [(0, iB c (g.flag (!ok)) 1 2 3), (1, ax (g.flag (!ok)).paths), (2, ay (g.flag (!ok)).conds), (3, aL c.num), (4, ba xs)]) := by
 refine aF 500 Z (MC.keep [500,501,502,503,504] (bs := [iB c (g.flag (!ok)) 501 502 503, ax (g.flag (!ok)).paths, ay (g.flag (!ok)).conds, aL c.num, ba xs]) Z Z (jH 13 [500,501,502,503,504] h1 h2 Tryz.func113 Z Z Z Z fun O hF => ?_))
 refine bZ ?_
 refine ag (jx O Z Z Z Z Z Z Z Z (aq ?_))
 refine jf [4,0,2] Z (jl O Z Z Z Z Z Z (aq ?_))
 refine jn (AWP.seq (ag (j2 O Z Z (jf [8,6,4,0] Z (jn (AWP.cond O Z Z (fun hc8 => ?_) (fun hc8 => ?_)))))))
 refine AWP.region (j3 O Z Z Z (jf [11,6,4] Z (jo O Z Z Z Z Z Z Z Z Z Z Z Z (aq ?_))))
 refine aP (js O Z (jf [12,11,6] Z (jo O Z Z Z Z Z Z Z Z Z Z Z Z (aq ?_))))
 refine jn (AWP.ret ?_)
 have hok : ok = false := by simpa using hc8
 subst hok
 rw [show g.flag (!false) = ⟨g.paths, g.conds, true⟩ from gT]
 refine ⟨.inl Z, _, Ent.refl, _, Z, Z, Z⟩
 refine AWP.skip (ag (js O Z (jf [12,6,0] Z (jo O Z Z Z Z Z Z Z Z Z Z Z Z (aq ?_)))))
 refine jn (AWP.ret ?_)
 have hok : ok = true := by simpa using hc8
 subst hok
 rw [show g.flag (!true) = g from eT]
 refine ⟨.inl Z, _, Ent.refl, _, Z, Z, Z⟩
theorem jI {c : Pc} {g : Gs} {frm : Int} {w : Pw} {t : Tm} (ht : t.ok = true) (hv : ea w.vars 10 = true) (hle : t.xs.length ≤ w.vars.length) : MQ h1 h2 87 [.c (.pt 0 0 0), .c (.pt 4 0 0), cZ t] (iH c g frm w) (aZ (cZ (aG t w.vars).1) (iH c (aR w t g) frm w)) := by
 refine aF 500 Z (MC.keep [500,501,502,503,504,505,506,507] (bs := [iB c (aR w t g) 501 502 503, ax (aR w t g).paths, ay (aR w t g).conds, aL c.num, iW frm w 505 506 507, aE w.vars, aE w.facts, ba w.ev]) Z Z (jH 17 [500,501,502,503,504,505,506,507] h1 h2 Tryz.func87 Z Z Z Z fun O hF => ?_))
 refine bZ ?_
 refine ag (jx O Z Z Z Z Z Z Z Z (aq ?_))
 refine aA (Ent.freeze 5 (e' := [(5, _), (0, _), (1, _)]) Z (.cons Z (.c (.box (cs := Tm.cells t) Z (aw Z))) (.cons Z (.keep Z) (.cons Z (.keep Z) .nil))) (.skip (.cons Z (.box (.cons (.keep Z) (.cons (.keep Z) (.cons (.keep Z) (.cons (.keep Z) (.cons (.keep Z) (.cons (.keep Z) (.cons (.keep Z) (.cons (.keep Z) (.cons (.keep Z) .nil)))))))))) (.cons Z .row (.cons Z .row (.cons Z .map (.cons Z (.box (.cons (.keep Z) (.cons (.keep Z) (.cons (.keep Z) (.cons (.keep Z) (.cons (.keep Z) (.cons (.keep Z) .nil))))))) (.cons Z .row (.cons Z .row (.cons Z .row .nil)))))))))) ?_
 refine aq ?_
 refine jl O Z Z Z Z Z Z (aq ?_)
 refine jn (AWP.seq (f6 O [_,_,_,_,_,_,_,_,_,_,_] [pn [] 0 1, pn [] 0 0, pn [] 0 0, pn [2] 0 0, pn [2,3] 0 0, pn [2,3,4] 0 0, pe [1,2,3,4,5] 0, pn [1,2,3,4,5,6] 1 1, pn [1,2,3,4,5,6] 1 1, pe [0,1,2,3,4,5,6,7,8] 1, pe [0,1,2,3,4,5,6,7,8,9] 2] [6,9,10] [_,_,_,_] (ai (kc O Z (V O Z)) (kc O Z (kc O Z (kc O Z (kc O Z (kc O Z (ai (cV O (B0 := 14000) Z Z Z Z (tA (t := t) (vs := w.vars) h1 h2 ht hv hle) (.cons (.agg (aw Z)) (.cons (.c (.whole Z (List.length_map _).symm)) .nil)) Z Z Z Z Z) (kc O Z (kc O Z (ai (b0 O [500,501,502,503,14000] (bin := [iB c g 1 2 3, ax g.paths, ay g.conds, aL c.num, ba (aG t w.vars).1.xs]) Z Z Z Z (vy (c := c) (g := g) (k := (aG t w.vars).1.c) (xs := (aG t w.vars).1.xs) (ok := (aG t w.vars).2) h1 h2) Z Z Z Z Z (B0 := 17000) Z Z Z Z Z Z) (ai (aC O Z Z Z Z Z Z Z Z Z Z Z Z Z) trivial))))))))))) ?_))
 refine jw [6] Z (bZ ?_)
 refine AWP.ret ?_
 refine ⟨.inl Z, _, Ent.freeze 14000 (e' := [(6, _)]) Z (.cons Z (.keep Z) .nil) (.cons Z (.box (.cons (.keep Z) (.cons (.row Z (List.length_map _).symm) .nil))) (.cons Z (.box (.cons (.keep Z) (.cons (.keep Z) (.cons (.keep Z) (.cons (.keep Z) (.cons (.keep Z) (.cons (.keep Z) .nil))))))) (.cons Z .row (.cons Z .row (.cons Z .row (.cons Z (.box (.cons (.keep Z) (.cons (.keep Z) (.cons (.keep Z) (.cons (.keep Z) (.cons (.keep Z) (.cons (.keep Z) (.cons (.keep Z) (.cons (.keep Z) (.cons (.keep Z) .nil)))))))))) (.cons Z .row (.cons Z .row (.cons Z .map (.skip .nil)))))))))), _, Z, Z, Z⟩
abbrev xd (c : Pc) (g : Gs) (frm : Int) (w : Pw) : List (Nat × B) := [(0, iB c g 1 8 3), (1, ax g.paths), (3, aL c.num), (4, iW frm w 5 6 7), (5, aE w.vars), (6, aE w.facts), (7, ba w.ev), (8, ay g.conds)]
def cR (w : Pw) (t : Tm) (g : Gs) : Gs := (g.goal w t).flag (!t.ok)
theorem oS {c : Pc} {g : Gs} {frm : Int} {w : Pw} {t : Tm} (hg : g.conds.length + 1 ≤ L) : MQ h1 h2 109 [.c (.pt 0 0 0), .c (.pt 4 0 0), cZ t] (iH c g frm w) (aZ (.tup []) (xd c (cR w t g) frm w)) := by
 refine aF 500 Z (MC.keep [500,501,503,504,505,506,507,508] (bs := [iB c (cR w t g) 501 508 503, ax (cR w t g).paths, aL c.num, iW frm w 505 506 507, aE w.vars, aE w.facts, ba w.ev, ay (cR w t g).conds]) Z Z (jH 31 [500,501,502,503,504,505,506,507] h1 h2 Tryz.func109 Z Z Z Z fun O hF => ?_))
 refine bZ ?_
 refine ag (jx O Z Z Z Z Z Z Z Z (aq ?_))
 refine aA (Ent.freeze 5 (e' := [(5, _), (0, _), (1, _)]) Z (.cons Z (.c (.box (cs := Tm.cells t) Z (aw Z))) (.cons Z (.keep Z) (.cons Z (.keep Z) .nil))) (.skip (.cons Z (.box (.cons (.keep Z) (.cons (.keep Z) (.cons (.keep Z) (.cons (.keep Z) (.cons (.keep Z) (.cons (.keep Z) (.cons (.keep Z) (.cons (.keep Z) (.cons (.keep Z) .nil)))))))))) (.cons Z .row (.cons Z .row (.cons Z .map (.cons Z (.box (.cons (.keep Z) (.cons (.keep Z) (.cons (.keep Z) (.cons (.keep Z) (.cons (.keep Z) (.cons (.keep Z) .nil))))))) (.cons Z .row (.cons Z .row (.cons Z .row .nil)))))))))) ?_
 refine aq ?_
 refine jn (AWP.seq (oG O [_,_,_,_,_,_,_,_,_,_] [pn [] 0 0, pn [0] 0 0, pn [0,1] 0 0, pn [0,1,2] 0 0, pe [0,1,2,3] 0, pn [] 0 1, pe [0,1,2,3,4,5] 1, pn [0,1,2,3,4,5,6] 2 2, pn [] 0 2, pe [0,1,2,3,4,5,6,7,8] 2] [4,6,9] 8 6 (.box [.d .nils, .d (.int .i64 0), .d .nils]) [_,_,_] [_] [[], [], []] (kf O Z Z Z (kf O Z Z Z (kf O Z Z Z (kf O Z Z Z (ai (ai (aJ (aO (cV O (B0 := 12000) Z Z Z Z (rN (ts := w.facts) h1 h2) (.cons (.c (.whole Z (List.length_map _).symm)) .nil) Z Z Z Z Z)) (aO (cV O (B0 := 12000) Z Z Z Z (rN (ts := w.facts) h1 h2) (.cons (.c (.whole Z (List.length_map _).symm)) .nil) Z Z Z Z Z))) Z) (ai (kf O Z Z Z (kg O Z Z Z)) (ai (ai (aJ (aO (cV O (B0 := 14000) Z Z Z Z (oP (t := t) h1 h2) (ab Z) Z Z Z Z Z)) (aO (cV O (B0 := 14000) Z Z Z Z (oP (t := t) h1 h2) (ab Z) Z Z Z Z Z))) Z) (kf O Z Z Z (ai (ai (ai (aO (Eff.alloc O Z Z Z Z Z Z)) Z) (ai (ai (aO (Eff.alloc O Z Z Z Z Z Z)) Z) (ai (aO (Eff.alloc O Z Z Z Z Z Z)) Z))) (ai (ai (aJ trivial (aO (aC O Z Z Z Z Z Z Z Z Z Z Z Z Z))) Z) trivial)))))))))) ?_))
 refine jw [6,5,0] Z (bZ ?_)
 refine AWP.seq (ag (js O Z (ae O Z Z Z Z (mJ (t := t) h1 h2) (ab Z) Z Z Z Z Z (B0 := 17000) Z (js O Z (jf [17,6,5,0] Z (jn (AWP.cond O Z Z (fun hc17 => ?_) (fun hc17 => ?_))))))))
 refine AWP.region (j3 O Z Z Z (jf [20,6,5,0] Z (jo O Z Z Z Z Z Z Z Z Z Z Z Z (aq ?_))))
 refine jn (jE O [_,_,_,_,_,_,_,_,_,_,_] [pn [] 0 2, pn [] 0 1, pn [1] 0 1, pn [1,2] 0 1, pn [1,2,3] 0 1, pn [] 0 0, pe [5] 0, pe [1,2,3,4,5,6] 1, pn [0,1,2,3,4,5,6,7] 2 2, pn [0,1,2,3,4,5,6,7,8] 2 2, pe [0,1,2,3,4,5,6,7,8,9] 2] [6,7,10] [_,_,_,_] [[12000,14000], [502,27], []] (ai (ka O Z Z (ka O Z Z (kw O Z Z))) (ai (ka O Z Z (kw O Z Z)) (ai (ka O Z Z (kw O Z Z)) (ai (ka O Z Z (kw O Z Z)) (ai (ka O Z Z (kw O Z Z)) (ka O Z Z (ai (ai (gC [12000,14000] (ds := Sq.cells (⟨w.facts, t⟩ : Sq)) O Z Z Z Z Z Z Z Z Z Z Z Z (fun e => .rs Z (List.length_map _).symm (.d Z (.rs Z (List.length_map _).symm .nil))) Z Z) Z) (ai (ai (gD (xs := g.conds.map Sq.cells) (ys := [Sq.cells (⟨w.facts, t⟩ : Sq)]) (zs := (g.conds ++ [(⟨w.facts, t⟩ : Sq)]).map Sq.cells) (n := (g.conds ++ [(⟨w.facts, t⟩ : Sq)]).length) O Z Z Z Z Z Z Z Z Z Z Z Z Z Z Z Z (.row Z (List.length_map _).symm) Z Z (by decide) Z (by simp; omega) (by simp; omega) (by simp) (by simp) Z) Z) (ka O Z Z (ka O Z Z (ai (ai (aO (aC O Z Z Z Z Z Z Z Z Z Z Z Z Z)) Z) trivial))))))))))) ?_)
 show _ ∧ _
 have hok : t.ok = false := by simpa using hc17
 rw [show cR w t g = ⟨g.paths, g.conds ++ [(⟨w.facts, t⟩ : Sq)], true⟩ by rw [cR, hok]; simp [Gs.flag, Gs.goal]]
 refine ⟨.inr Z, _, af 28 508 Z Z, _, Z, Z, Z⟩
 refine AWP.skip (jw [6,5,0] Z (jE O [_,_,_,_,_,_,_,_,_,_,_] [pn [] 0 2, pn [] 0 1, pn [1] 0 1, pn [1,2] 0 1, pn [1,2,3] 0 1, pn [] 0 0, pe [5] 0, pe [1,2,3,4,5,6] 1, pn [0,1,2,3,4,5,6,7] 2 2, pn [0,1,2,3,4,5,6,7,8] 2 2, pe [0,1,2,3,4,5,6,7,8,9] 2] [6,7,10] [_,_,_,_] [[12000,14000], [502,27], []] (ai (ka O Z Z (ka O Z Z (kw O Z Z))) (ai (ka O Z Z (kw O Z Z)) (ai (ka O Z Z (kw O Z Z)) (ai (ka O Z Z (kw O Z Z)) (ai (ka O Z Z (kw O Z Z)) (ka O Z Z (ai (ai (gC [12000,14000] (ds := Sq.cells (⟨w.facts, t⟩ : Sq)) O Z Z Z Z Z Z Z Z Z Z Z Z (fun e => .rs Z (List.length_map _).symm (.d Z (.rs Z (List.length_map _).symm .nil))) Z Z) Z) (ai (ai (gD (xs := g.conds.map Sq.cells) (ys := [Sq.cells (⟨w.facts, t⟩ : Sq)]) (zs := (g.conds ++ [(⟨w.facts, t⟩ : Sq)]).map Sq.cells) (n := (g.conds ++ [(⟨w.facts, t⟩ : Sq)]).length) O Z Z Z Z Z Z Z Z Z Z Z Z Z Z Z Z (.row Z (List.length_map _).symm) Z Z (by decide) Z (by simp; omega) (by simp; omega) (by simp) (by simp) Z) Z) (ka O Z Z (ka O Z Z (ai (ai (aO (aC O Z Z Z Z Z Z Z Z Z Z Z Z Z)) Z) trivial))))))))))) ?_))
 show _ ∧ _
 have hok : t.ok = true := by simpa using hc17
 rw [show cR w t g = ⟨g.paths, g.conds ++ [(⟨w.facts, t⟩ : Sq)], g.bad⟩ by rw [cR, hok]; simp [Gs.flag, Gs.goal]]
 refine ⟨.inr Z, _, af 28 508 Z Z, _, Z, Z, Z⟩
abbrev xc (c : Pc) (g : Gs) (frm : Int) (w : Pw) : List (Nat × B) := [(0, iB c g 1 2 3), (1, ax g.paths), (2, ay g.conds), (3, aL c.num), (4, iW frm w 5 9 7), (5, aE w.vars), (7, ba w.ev), (9, aE w.facts)]
theorem oc {g : Gs} : g.flag true = ⟨g.paths, g.conds, true⟩ := by simp [Gs.flag]
theorem jT {g : Gs} : g.flag false = g := by simp [Gs.flag]
theorem oR {c : Pc} {g : Gs} {frm : Int} {w : Pw} {t : Tm} (hl : w.facts.length ≤ 1000) : MQ h1 h2 110 [.c (.pt 0 0 0), .c (.pt 4 0 0), cZ t] (iH c g frm w) (aZ (.tup []) (xc c (g.flag (w.fact t).long) frm (w.fact t))) := by
 refine aF 500 Z (MC.keep [500,501,502,503,504,505,507,509] (bs := [iB c (g.flag (w.fact t).long) 501 502 503, ax (g.flag (w.fact t).long).paths, ay (g.flag (w.fact t).long).conds, aL c.num, iW frm (w.fact t) 505 509 507, aE (w.fact t).vars, ba (w.fact t).ev, aE (w.fact t).facts]) Z Z (jH 25 [500,501,502,503,504,505,506,507] h1 h2 Tryz.func110 Z Z Z Z fun O hF => ?_))
 refine bZ ?_
 refine ag (jx O Z Z Z Z Z Z Z Z (aq ?_))
 refine aA (Ent.freeze 5 (e' := [(5, _), (0, _), (1, _)]) Z (.cons Z (.c (.box (cs := Tm.cells t) Z (aw Z))) (.cons Z (.keep Z) (.cons Z (.keep Z) .nil))) (.skip (.cons Z (.box (.cons (.keep Z) (.cons (.keep Z) (.cons (.keep Z) (.cons (.keep Z) (.cons (.keep Z) (.cons (.keep Z) (.cons (.keep Z) (.cons (.keep Z) (.cons (.keep Z) .nil)))))))))) (.cons Z .row (.cons Z .row (.cons Z .map (.cons Z (.box (.cons (.keep Z) (.cons (.keep Z) (.cons (.keep Z) (.cons (.keep Z) (.cons (.keep Z) (.cons (.keep Z) .nil))))))) (.cons Z .row (.cons Z .row (.cons Z .row .nil)))))))))) ?_
 refine aq ?_
 refine jn (AWP.seq (oG O [_,_,_,_,_,_,_,_,_,_,_] [pn [] 0 1, pn [] 0 0, pn [1] 0 0, pn [1,2] 0 0, pn [1,2,3] 0 0, pn [] 0 0, pn [5] 0 0, pe [1,2,3,4,5,6] 0, pn [0,1,2,3,4,5,6,7] 1 1, pn [0,1,2,3,4,5,6,7,8] 1 1, pe [0,1,2,3,4,5,6,7,8,9] 1] [7,10] 6 12 (.row false 2 [Tm.cells t]) [_] [_,_] [[506], []] (ai (kf O Z Z Z (kg O Z Z Z)) (kf O Z Z Z (kf O Z Z Z (kf O Z Z Z (kf O Z Z Z (kf O Z Z Z (ai (ai (aO (dn O Z Z Z Z Z Z Z Z Z Z Z Z Z Z)) Z) (ai (ai (aJ trivial (cF (own := false) (xs := w.facts.map Tm.cells) (ys := [Tm.cells t]) (zs := ((w.facts ++ [t])).map Tm.cells) (n := (w.facts ++ [t]).length) O Z Z Z Z Z Z Z Z Z Z Z Z Z Z Z Z (.row Z (List.length_map _).symm) (.whole Z Z (.inr ⟨Z, Z⟩)) (by simp) Z (by simp; omega) (by simp; omega) (by simp) (by simp) Z)) Z) (ai (ai (aJ trivial (V O Z)) Z) (ai (ai (aJ trivial (V O Z)) Z) (ai (ai (aJ trivial (aO (aC O Z Z Z Z Z Z Z Z Z Z Z Z Z))) Z) trivial))))))))))) ?_))
 refine jw [0,1] Z (bZ ?_)
 refine ag (j4 O Z Z Z Z (aa (cL O Z Z (by simp only [List.length_append, List.length_singleton]; omega)) Z Z Z (js O Z (jf [21,0,1] Z (jn (AWP.cond O Z Z (fun hc21 => ?_) (fun hc21 => ?_)))))))
 refine AWP.region (j3 O Z Z Z (jf [24,1] Z (jo O Z Z Z Z Z Z Z Z Z Z Z Z (aq ?_))))
 refine jn ?_
 show _ ∧ _
 have hlo : (w.fact t).long = true := decide_eq_true (by show 12 < (w.facts ++ [t]).length; have := of_decide_eq_true hc21; omega)
 rw [hlo, oc]
 refine ⟨.inr Z, _, af 13 509 Z Z, _, Z, Z, Z⟩
 refine AWP.skip ?_
 show _ ∧ _
 have hlo : (w.fact t).long = false := decide_eq_false (by show ¬ 12 < (w.facts ++ [t]).length; have := of_decide_eq_false hc21; omega)
 rw [hlo, jT]
 refine ⟨.inr Z, _, af 13 509 Z Z, _, Z, Z, Z⟩
def bH : ct := fun t => (gY [⟨7, []⟩, t] [1, -1], (gY [⟨7, []⟩, t] [1, -1]).ok)
theorem pO {w : Pw} {t : Tm} {g : Gs} (ht : t.ok = true) : cR w (bH t).1 (cR w t g) = jG bH w t g := by
 simp only [cR, jG, bH, ht, Gs.goal, Gs.flag, Bool.not_true, Bool.or_false]
theorem s7 {t : Tm} (ht : t.ok = true) : CtxOk [⟨7, []⟩, t] := by
 refine ⟨fun u hu => ?_, by simp⟩
 rcases List.mem_cons.1 hu with rfl | hu
 decide
 rcases List.mem_cons.1 hu with rfl | hu
 exact ht
 cases hu
theorem sD {c : Pc} {g : Gs} {frm : Int} {w : Pw} {t : Tm} (ht : t.ok = true) (hg : g.conds.length + 2 ≤ L) : MQ h1 h2 107 [.c (.pt 0 0 0), .c (.pt 4 0 0), cZ t] (iH c g frm w) (aZ (.tup []) (xd c (jG bH w t g) frm w)) := by
 refine aF 500 Z (MC.keep [500,501,503,504,505,506,507,508] (bs := [iB c (jG bH w t g) 501 508 503, ax (jG bH w t g).paths, aL c.num, iW frm w 505 506 507, aE w.vars, aE w.facts, ba w.ev, ay (jG bH w t g).conds]) Z Z (jH 20 [500,501,502,503,504,505,506,507] h1 h2 Tryz.func107 Z Z Z Z fun O hF => ?_))
 refine bZ ?_
 refine ag (jx O Z Z Z Z Z Z Z Z (aq ?_))
 refine aA (Ent.freeze 5 (e' := [(5, _), (0, _), (1, _)]) Z (.cons Z (.c (.box (cs := Tm.cells t) Z (aw Z))) (.cons Z (.keep Z) (.cons Z (.keep Z) .nil))) (.skip (.cons Z (.box (.cons (.keep Z) (.cons (.keep Z) (.cons (.keep Z) (.cons (.keep Z) (.cons (.keep Z) (.cons (.keep Z) (.cons (.keep Z) (.cons (.keep Z) (.cons (.keep Z) .nil)))))))))) (.cons Z .row (.cons Z .row (.cons Z .map (.cons Z (.box (.cons (.keep Z) (.cons (.keep Z) (.cons (.keep Z) (.cons (.keep Z) (.cons (.keep Z) (.cons (.keep Z) .nil))))))) (.cons Z .row (.cons Z .row (.cons Z .row .nil)))))))))) ?_
 refine aq ?_
 refine aP (j3 O Z Z Z (ap O [500,501,502,503,504,505,506,507] (bin := [iB c g 1 2 3, ax g.paths, ay g.conds, aL c.num, iW frm w 5 6 7, aE w.vars, aE w.facts, ba w.ev]) Z Z Z Z (oS (c := c) (g := g) (frm := frm) (w := w) (t := t) h1 h2 (by omega)) Z Z Z Z Z Z (B0 := 11000) Z Z (aq ?_)))
 refine jf [5,0,1] Z (aP (j2 O Z Z (AOps.heap (dO O Z Z Z Z Z Z Z Z Z Z Z) Z (aq ?_))))
 refine aA (Ent.rowLe 13 Z (.cons (.cons .refl (.cons (.nil (sz := 1)) .nil)) (.cons (.cons .refl (.cons .refl .nil)) .nil))) (aq ?_)
 refine aq ?_
 refine jf [13,5,0,1] Z (AOps.heap (bE O Z Z Z) Z (aq ?_))
 refine aA (Ent.freeze 13 (e' := [(14, _), (13, _), (0, _), (1, _)]) Z (.cons Z (.keep Z) (.cons Z (.c (.row Z Z)) (.cons Z (.keep Z) (.cons Z (.keep Z) .nil)))) (.skip (.cons Z .row (.cons Z (.box (.cons (.keep Z) (.cons (.keep Z) (.cons (.keep Z) (.cons (.keep Z) (.cons (.keep Z) (.cons (.keep Z) (.cons (.keep Z) (.cons (.keep Z) (.cons (.keep Z) .nil)))))))))) (.cons Z .row (.cons Z .map (.cons Z (.box (.cons (.keep Z) (.cons (.keep Z) (.cons (.keep Z) (.cons (.keep Z) (.cons (.keep Z) (.cons (.keep Z) .nil))))))) (.cons Z .row (.cons Z .row (.cons Z .row (.cons Z .row .nil))))))))))) ?_
 refine aA (Ent.freeze 14 (e' := [(14, _), (13, _), (0, _), (1, _)]) Z (.cons Z (.c (.row Z Z)) (.cons Z (.keep Z) (.cons Z (.keep Z) (.cons Z (.keep Z) .nil)))) (.skip (.cons Z (.box (.cons (.keep Z) (.cons (.keep Z) (.cons (.keep Z) (.cons (.keep Z) (.cons (.keep Z) (.cons (.keep Z) (.cons (.keep Z) (.cons (.keep Z) (.cons (.keep Z) .nil)))))))))) (.cons Z .row (.cons Z .map (.cons Z (.box (.cons (.keep Z) (.cons (.keep Z) (.cons (.keep Z) (.cons (.keep Z) (.cons (.keep Z) (.cons (.keep Z) .nil))))))) (.cons Z .row (.cons Z .row (.cons Z .row (.cons Z .row .nil)))))))))) ?_
 refine aq ?_
 refine ao O Z Z Z Z (sW (ts := [⟨7, []⟩, t]) (ms := [1, -1]) h1 h2 (s7 ht) (by decide) (Nat.le_refl _)) (ab Z) Z Z Z Z (B0 := 16000) Z Z (jf [15,0,1] Z (jl O Z Z Z Z Z Z (aq ?_)))
 refine jo O Z Z Z Z Z Z Z Z Z Z Z Z (aq ?_)
 refine jn (AWP.region (j3 O Z Z Z (ap O [500,501,11008,503,504,505,506,507] (bin := [iB c (cR w t g) 1 2 3, ax (cR w t g).paths, ay (cR w t g).conds, aL c.num, iW frm w 5 6 7, aE w.vars, aE w.facts, ba w.ev]) Z Z Z Z (oS (c := c) (g := (cR w t g)) (frm := frm) (w := w) (t := (bH t).1) h1 h2 (by simp only [cR, Gs.flag, Gs.goal, List.length_append, List.length_singleton]; omega)) Z Z Z Z Z Z (B0 := 20000) Z Z (aq ?_))))
 refine jf [6,15,0,1] Z (jn ?_)
 show _ ∧ _
 rw [← pO ht]
 refine ⟨.inr Z, _, af 20008 508 Z Z, _, Z, Z, Z⟩
abbrev iHE (c : Pc) (g : Gs) (frm : Int) (w : Pw) : List (Nat × B) := [(0, iB c g 9 8 3), (3, aL c.num), (4, iW frm w 5 6 7), (5, aE w.vars), (6, aE w.facts), (7, ba w.ev), (8, ay g.conds), (9, ax g.paths)]
theorem pA {w : Pw} {t : Tm} {g : Gs} : cR w (aG t w.vars).1 (aR w t g) = bl w g t := by
 simp only [cR, dq, bl, Gs.flag, Bool.not_true, Bool.or_false]
theorem md {w : Pw} (hw : CtxOk w.vars) (hv : w.vars.length = 4) : ea w.vars 10 = true := by
 unfold ea
 rw [List.all_eq_true.2 hw.ok, decide_eq_true (by omega)]; rfl
theorem qs {c : Pc} {g : Gs} {frm : Int} {w : Pw} {to : Int} {fs : List Tm} (hw : CtxOk w.vars) (hv : w.vars.length = 4) (hf : TsOk fs) (hg : g.conds.length + fs.length ≤ L) (hp : g.paths.length + 1 ≤ L) : MQ h1 h2 106 [.c (.pt 0 0 0), .c (.pt 4 0 0), eI to, cr fs] (iH c g frm w) (aZ (.tup []) (iHE c (cG frm w to fs g) frm w)) := by
 refine aF 500 Z (MC.keep [500,503,504,505,506,507,508,509] (bs := [iB c (cG frm w to fs g) 509 508 503, aL c.num, iW frm w 505 506 507, aE w.vars, aE w.facts, ba w.ev, ay (cG frm w to fs g).conds, ax (cG frm w to fs g).paths]) Z Z (jH 63 [500,501,502,503,504,505,506,507] h1 h2 Tryz.func106 Z Z Z Z fun O hF => ?_))
 refine bZ ?_
 have hpe : (fs.foldl (bl w) g).paths.length = g.paths.length := congrArg List.length dL
 have hva := md hw hv
 have hll : fs.length ≤ L := by omega
 refine AWP.seq (ag (js O Z ?_))
 first | refine cy O Z Z Z Z Z Z Z Z Z Z Z ?_ | refine js O Z ?_ | refine aY O Z Z Z Z Z ?_
 refine js O Z (jn (AWP.block (az (X := Nat) (fun i => ⟨[(0, .c (.pt 500 0 0)), (1, .c (.pt 504 0 0)), (2, eI to), (10, cr fs), (11, eI fs.length), (12, eI i)], [(500, iB c ((fs.take i).foldl (bl w) g) 501 902 503), (501, ax ((fs.take i).foldl (bl w) g).paths), (503, aL c.num), (504, iW frm w 505 506 507), (505, aE w.vars), (506, aE w.facts), (507, ba w.ev), (902, ay ((fs.take i).foldl (bl w) g).conds)]⟩) (fun i => i ≤ fs.length) (fun i => fs.length - i) 0 (((aT [500,501,503,504,505,506,507,502] (e' := [(0, _), (1, _), (2, _), (10, _), (11, _), (12, _)]) Z Z ⟨Z, Z, Z, Z, Z, Z, trivial⟩ Z).trans (af 502 902 Z Z)).trans (Ent.to ⟨Z, Z, Z, Z, Z, Z, trivial⟩ Z)) ?_ (fun i hi => ?_))))
 exact Nat.zero_le _
 refine ag (js O Z (jn (AWP.seq (AWP.cond O Z Z (fun hc13 => ?_) (fun hc13 => ?_)))))
 refine AWP.skip (AWP.seq (AWP.block (ag ?_)))
 first | refine oE O Z Z Z Z Z Z Z Z Z Z Z ?_ | refine dR O Z Z Z Z Z Z Z Z Z Z Z ?_ | refine aY O Z Z Z Z Z ?_
 refine js O Z (jf [15,13,0,1,2,10,11,12] Z (jl O Z Z Z Z Z Z (aq ?_)))
 refine jo O Z Z Z Z Z Z Z Z Z Z Z Z (aq ?_)
 refine jn (AWP.region (j4 O Z Z Z Z (js O Z ?_)))
 have hil : i < fs.length := by have := of_decide_eq_true hc13; omega
 have hfi := hf.get hil
 have hci := iu (w := w) (fs := fs.take i) (g := g)
 rw [List.length_take, Nat.min_eq_left (by omega)] at hci
 refine ap O [500,501,902,503,504,505,506,507] (bin := [iB c ((fs.take i).foldl (bl w) g) 1 2 3, ax ((fs.take i).foldl (bl w) g).paths, ay ((fs.take i).foldl (bl w) g).conds, aL c.num, iW frm w 5 6 7, aE w.vars, aE w.facts, ba w.ev]) Z Z Z Z (jI (c := c) (g := ((fs.take i).foldl (bl w) g)) (frm := frm) (w := w) (t := (fs.getD i default)) h1 h2 hfi.1 hva (by omega)) Z Z Z Z Z Z (B0 := 22000) Z Z (aq ?_)
 refine jf [21,17,16,9,15,13,0,1,2,10,11,12] Z (ap O [500,501,902,503,504,505,506,507] (bin := [iB c (aR w (fs.getD i default) ((fs.take i).foldl (bl w) g)) 1 2 3, ax (aR w (fs.getD i default) ((fs.take i).foldl (bl w) g)).paths, ay (aR w (fs.getD i default) ((fs.take i).foldl (bl w) g)).conds, aL c.num, iW frm w 5 6 7, aE w.vars, aE w.facts, ba w.ev]) Z Z Z Z (oS (c := c) (g := (aR w (fs.getD i default) ((fs.take i).foldl (bl w) g))) (frm := frm) (w := w) (t := (aG (fs.getD i default) w.vars).1) h1 h2 (show ((fs.take i).foldl (bl w) g).conds.length + 1 ≤ L by omega)) Z Z Z Z Z Z (B0 := 23000) Z Z (aq ?_))
 refine jf [9,15,13,0,1,2,10,11,12] Z (jn (AWP.region ?_))
 first | refine ji O Z ?_ | refine aY O Z Z Z Z Z ?_
 refine js O Z (jn ?_)
 refine ⟨i + 1, ((aT [500,501,503,504,505,506,507,23008] (e' := [(0, _), (1, _), (2, _), (10, _), (11, _), (12, _)]) Z Z ⟨Z, Z, Z, Z, Z, Z, trivial⟩ Z).trans (af 23008 902 Z Z)).trans (Ent.to ⟨Z, Z, Z, Z, Z, Z, trivial⟩ (by rw [lK hil, ← pA]; rfl)), by omega, by omega⟩
 refine AWP.exit (AWP.seq ?_)
 obtain rfl : i = fs.length := by have := of_decide_eq_false hc13; omega
 rw [List.take_length]
 refine jE O [_,_,_,_,_,_,_,_,_,_,_,_,_,_,_,_,_,_,_,_,_,_,_,_,_,_,_,_,_,_,_] [pn [] 0 5, pn [] 0 4, pn [1] 0 4, pn [1,2] 0 4, pn [1,2,3] 0 4, pn [] 0 3, pn [5] 0 3, pn [5,6] 0 3, pn [5,6,7] 0 3, pn [] 0 3, pn [] 0 0, pn [10] 0 0, pn [10,11] 0 0, pn [10,11,12] 0 0, pe [10,11,12,13] 0, pn [] 0 1, pn [15] 0 1, pn [15,16] 0 1, pn [15,16,17] 0 1, pe [10,11,12,13,14,15,16,17,18] 1, pn [] 0 2, pn [20] 0 2, pn [20,21] 0 2, pn [20,21,22] 0 2, pe [10,11,12,13,14,15,16,17,18,19,20,21,22,23] 2, pn [5,6,7,8,9,10,11,12,13,14,15,16,17,18,19,20,21,22,23,24] 3 3, pe [5,6,7,8,9,10,11,12,13,14,15,16,17,18,19,20,21,22,23,24,25] 3, pe [1,2,3,4,5,6,7,8,9,10,11,12,13,14,15,16,17,18,19,20,21,22,23,24,25,26] 4, pn [0,1,2,3,4,5,6,7,8,9,10,11,12,13,14,15,16,17,18,19,20,21,22,23,24,25,26,27] 5 5, pn [0,1,2,3,4,5,6,7,8,9,10,11,12,13,14,15,16,17,18,19,20,21,22,23,24,25,26,27,28] 5 5, pe [0,1,2,3,4,5,6,7,8,9,10,11,12,13,14,15,16,17,18,19,20,21,22,23,24,25,26,27,28,29] 5] [14,19,24,26,27,30] [_,_,_,_,_,_,_] [[], [], [], [39000,44000,49000], [501,50], []] (ai (ka O Z Z (ka O Z Z (ka O Z Z (ka O Z Z (ka O Z Z (kw O Z Z)))))) (ai (ka O Z Z (ka O Z Z (ka O Z Z (ka O Z Z (kw O Z Z))))) (ai (ka O Z Z (ka O Z Z (ka O Z Z (ka O Z Z (kw O Z Z))))) (ai (ka O Z Z (ka O Z Z (ka O Z Z (ka O Z Z (kw O Z Z))))) (ai (ka O Z Z (ka O Z Z (ka O Z Z (ka O Z Z (kw O Z Z))))) (ai (ka O Z Z (ka O Z Z (ka O Z Z (kw O Z Z)))) (ai (ka O Z Z (ka O Z Z (ka O Z Z (kw O Z Z)))) (ai (ka O Z Z (ka O Z Z (ka O Z Z (kw O Z Z)))) (ai (ka O Z Z (ka O Z Z (ka O Z Z (kw O Z Z)))) (ai (ka O Z Z (ka O Z Z (ka O Z Z (kw O Z Z)))) (ka O Z Z (ka O Z Z (ka O Z Z (ka O Z Z (ai (ai (aO (cV O (B0 := 39000) Z Z Z Z (rN (ts := w.facts) h1 h2) (.cons (.c (.whole Z (List.length_map _).symm)) .nil) Z Z Z Z Z)) Z) (ai (ka O Z Z (kw O Z Z)) (ai (ka O Z Z (kw O Z Z)) (ai (ka O Z Z (kw O Z Z)) (ai (ka O Z Z (kw O Z Z)) (ai (ai (aO (cV O (B0 := 44000) Z Z Z Z (rN (ts := w.vars) h1 h2) (.cons (.c (.whole Z (List.length_map _).symm)) .nil) Z Z Z Z Z)) Z) (ai (ka O Z Z (ka O Z Z (kw O Z Z))) (ai (ka O Z Z (ka O Z Z (kw O Z Z))) (ai (ka O Z Z (ka O Z Z (kw O Z Z))) (ai (ka O Z Z (ka O Z Z (kw O Z Z))) (ai (ai (aO (cV O (B0 := 49000) Z Z Z Z (sX (xs := w.ev) h1 h2) (.cons (.c (.whole Z (List.length_map _).symm)) .nil) Z Z Z Z Z)) Z) (ka O Z Z (ai (ai (gC [39000,44000,49000] (ds := Pth.cells (⟨frm, to, w.facts, w.vars, w.ev⟩ : Pth)) O Z Z Z Z Z Z Z Z Z Z Z Z (fun e => .d Z (.d Z (.rs Z (List.length_map _).symm (.rs Z (List.length_map _).symm (.rs Z (List.length_map _).symm .nil))))) Z Z) Z) (ai (ai (gD (xs := (fs.foldl (bl w) g).paths.map Pth.cells) (ys := [Pth.cells (⟨frm, to, w.facts, w.vars, w.ev⟩ : Pth)]) (zs := ((fs.foldl (bl w) g).paths ++ [(⟨frm, to, w.facts, w.vars, w.ev⟩ : Pth)]).map Pth.cells) (n := ((fs.foldl (bl w) g).paths ++ [(⟨frm, to, w.facts, w.vars, w.ev⟩ : Pth)]).length) O Z Z Z Z Z Z Z Z Z Z Z Z Z Z Z Z (.row Z (List.length_map _).symm) Z Z (by decide) Z (by simp; omega) (by simp; omega) (by simp) (by simp) Z) Z) (ka O Z Z (ka O Z Z (ai (ai (aO (aC O Z Z Z Z Z Z Z Z Z Z Z Z Z)) Z) trivial))))))))))))))))))))))))))))))) ?_
 refine jw [13,0,1,2,10,11,12] Z (bZ ?_)
 refine ag (j4 O Z Z Z Z (aa (cL O Z Z (by simp only [List.length_append, List.length_singleton]; omega)) Z Z Z (js O Z (jf [59,13,0,1,2,10,11,12] Z (jn (AWP.cond O Z Z (fun hc59 => ?_) (fun hc59 => ?_)))))))
 refine AWP.region (j3 O Z Z Z (jf [62,59,13,0,1,2,10,11,12] Z (jo O Z Z Z Z Z Z Z Z Z Z Z Z (aq ?_))))
 refine jn ?_
 show _ ∧ _
 have hlo : decide (200 < (fs.foldl (bl w) g).paths.length + 1) = true := decide_eq_true (by show 200 < (fs.foldl (bl w) g).paths.length + 1; have := of_decide_eq_true hc59; rw [List.length_append, List.length_singleton] at this; omega)
 rw [show (cG frm w to fs g) = ⟨(fs.foldl (bl w) g).paths ++ [(⟨frm, to, w.facts, w.vars, w.ev⟩ : Pth)], (fs.foldl (bl w) g).conds, true⟩ by unfold cG fq; rw [hlo]; simp]
 refine ⟨.inr Z, _, (af 51 509 Z Z).trans (af 902 508 Z Z), _, Z, Z, Z⟩
 refine AWP.skip ?_
 show _ ∧ _
 have hlo : decide (200 < (fs.foldl (bl w) g).paths.length + 1) = false := decide_eq_false (by show ¬ 200 < (fs.foldl (bl w) g).paths.length + 1; have := of_decide_eq_false hc59; rw [List.length_append, List.length_singleton] at this; omega)
 rw [show (cG frm w to fs g) = ⟨(fs.foldl (bl w) g).paths ++ [(⟨frm, to, w.facts, w.vars, w.ev⟩ : Pth)], (fs.foldl (bl w) g).conds, (fs.foldl (bl w) g).bad⟩ by unfold cG fq; rw [hlo]; simp]
 refine ⟨.inr Z, _, (af 51 509 Z Z).trans (af 902 508 Z Z), _, Z, Z, Z⟩
theorem tD {c : Pc} {g : Gs} {frm : Int} {w : Pw} (hs : w.sym = 10) : MQ h1 h2 108 [.c (.pt 0 0 0), .c (.pt 4 0 0)] (iH c g frm w) (aZ (.agg [.d (.int .i64 0), .d .nils]) (iH c (⟨g.paths, g.conds, true⟩ : Gs) frm w)) := by
 refine aF 500 Z (MC.keep [500,501,502,503,504,505,506,507] (bs := [iB c (⟨g.paths, g.conds, true⟩ : Gs) 501 502 503, ax (⟨g.paths, g.conds, true⟩ : Gs).paths, ay (⟨g.paths, g.conds, true⟩ : Gs).conds, aL c.num, iW frm w 505 506 507, aE w.vars, aE w.facts, ba w.ev]) Z Z (jH 27 [500,501,502,503,504,505,506,507] h1 h2 Tryz.func108 Z Z Z Z fun O hF => ?_))
 refine bZ ?_
 refine ag (jl O Z Z Z Z Z Z (aq ?_))
 refine jn (AWP.seq (ag (j4 O Z Z Z Z (js O Z (jf [9,4,0,1] Z (jn (AWP.cond O Z Z (fun hc9 => ?_) (fun hc9 => ?_))))))))
 refine ag (j3 O Z Z Z (jf [12,4,1] Z (jo O Z Z Z Z Z Z Z Z Z Z Z Z (aq ?_))))
 refine aP (js O Z (jo O Z Z Z Z Z Z Z Z Z Z Z Z (aq ?_)))
 refine jn (AWP.ret ?_)
 refine ⟨.inl Z, _, Ent.refl, _, Z, Z, Z⟩
 exact absurd (of_decide_eq_false hc9) (by omega)
theorem vB {c : Pc} {g : Gs} {frm : Int} {w : Pw} (hs : w.sym < 10) : MQ h1 h2 108 [.c (.pt 0 0 0), .c (.pt 4 0 0)] (iH c g frm w) (aZ (cZ (jb w.sym)) (iH c g frm (⟨w.vars, w.facts, w.ev, w.sym + 1⟩ : Pw))) := by
 refine aF 500 Z (MC.keep [500,501,502,503,504,505,506,507] (bs := [iB c g 501 502 503, ax g.paths, ay g.conds, aL c.num, iW frm (⟨w.vars, w.facts, w.ev, w.sym + 1⟩ : Pw) 505 506 507, aE (⟨w.vars, w.facts, w.ev, w.sym + 1⟩ : Pw).vars, aE (⟨w.vars, w.facts, w.ev, w.sym + 1⟩ : Pw).facts, ba (⟨w.vars, w.facts, w.ev, w.sym + 1⟩ : Pw).ev]) Z Z (jH 27 [500,501,502,503,504,505,506,507] h1 h2 Tryz.func108 Z Z Z Z fun O hF => ?_))
 refine bZ ?_
 refine ag (jl O Z Z Z Z Z Z (aq ?_))
 refine jn (AWP.seq (ag (j4 O Z Z Z Z (js O Z (jf [9,4,0,1] Z (jn (AWP.cond O Z Z (fun hc9 => ?_) (fun hc9 => ?_))))))))
 exact absurd (of_decide_eq_true hc9) (by omega)
 refine AWP.skip (ag (j4 O Z Z Z Z (aa ((bc O Z Z (by first | omega | (simp at *; omega)) (by first | omega | (simp at *; omega))).cast (v' := eI ((w.sym + 1 : Nat) : Int)) (congrArg eI (by omega))) Z Z Z (j2 O Z Z (jf [20,18,4,0,1] Z (jo O Z Z Z Z Z Z Z Z Z Z Z Z (aq ?_)))))))
 refine jf [4,0,1] Z (aP (j4 O Z Z Z Z (aa ((bc O Z Z (by first | omega | (simp at *; omega)) (by first | omega | (simp at *; omega))).cast (v' := eI ((w.sym : Nat) : Int)) (congrArg eI (by omega))) Z Z Z (jf [25,4,0,1] Z (ao O Z Z Z Z (sE (k := w.sym) h1 h2 hs) (ab Z) Z Z Z Z (B0 := 27000) Z Z (jf [26,4,0,1] Z (jo O Z Z Z Z Z Z Z Z Z Z Z Z (aq ?_))))))))
 refine jn (AWP.ret ?_)
 refine ⟨.inl Z, _, Ent.refl, _, Z, Z, Z⟩
theorem vu {c : Tm} {r : List Tm} (hl : (c :: r).length ≤ 1000) : MQ h1 h2 104 [.c (.rs 0 0 (c :: r).length)] [(0, aE (c :: r))] (aZ (.c (.rs 1 0 (c :: r).length)) [(0, aE (c :: r)), (1, aE (c :: r))]) := by
 refine aF 500 Z (MC.keep [500,501] (bs := [aE (c :: r), aE (c :: r)]) Z Z (jH 8 [500] h1 h2 Tryz.func104 Z Z Z Z fun O hF => ?_))
 refine bZ ?_
 refine ag (js O Z (jn (AWP.seq (ag (j2 O Z Z (jn (AWP.cond O Z Z (fun hc4 => ?_) (fun hc4 => ?_))))))))
 exact absurd (show false = true from hc4) (by decide)
 refine AWP.skip (ag (AOps.heap (bE O Z Z Z) Z (aq ?_)))
 refine js O Z (jf [6,5,3,2,0] Z ?_)
 have hl2 := hl
 simp only [List.length_cons] at hl2
 refine aA (cp 5 Z) (AOps.heap (bD (own := false) (zs := (c :: r).map Tm.cells) (n := (c :: r).length) O Z Z Z Z Z Z Z Z Z Z Z Z Z Z Z Z (.row Z Z) (.whole Z (by simp) (.inr ⟨Z, Z⟩)) (by simp) Z (by simp; omega) (by simp; omega) Z (by simp)) Z (aq ?_))
 refine js O Z (jf [2,3,0] Z (jn (AWP.ret ?_)))
 refine ⟨.inl Z, _, af 7 501 Z Z, _, Z, Z, Z⟩
theorem vr : MQ h1 h2 104 [.c (.rs 0 0 0)] [(0, aE [])] (aZ (.c (.rs 1 0 0)) [(0, aE []), (1, aE [])]) := by
 refine aF 500 Z (MC.keep [500,501] (bs := [aE [], aE []]) Z Z (jH 8 [500] h1 h2 Tryz.func104 Z Z Z Z fun O hF => ?_))
 refine bZ ?_
 refine ag (js O Z (jn (AWP.seq (ag (js O Z (j1 O Z Z Z Z Z Z Z Z Z Z (fun b => ?_)))))))
 refine jn (AWP.cond O Z Z (fun hc4 => ?_) (fun hc4 => ?_))
 refine ag (js O Z (jn (AWP.ret ?_)))
 refine ⟨.inl Z, _, fi 2 501 2 false Z Z, _, Z, Z, Z⟩
 refine AWP.skip (ag (AOps.heap (bE O Z Z Z) Z (aq ?_)))
 refine js O Z (jf [6,5,3,2,0] Z (aA (cp 5 Z) (AOps.heap (bD (own := false) (zs := []) (n := 0) O Z Z Z Z Z Z Z Z Z Z Z Z Z Z Z Z (.row Z Z) (.whole Z (by simp) (.inr ⟨Z, Z⟩)) (by simp) Z (by simp) (by simp) Z (by simp)) Z (aq ?_))))
 refine js O Z (jf [2,3,0] Z (jn (AWP.ret ?_)))
 refine ⟨.inl Z, _, af 7 501 Z Z, _, Z, Z, Z⟩
theorem sB {L : Nat} (h1 : 4096 ≤ L) (h2 : L ≤ 1073741824) {ts : List Tm} (hl : ts.length ≤ 1000) : MC Tryz.prog L 104 [.c (.rs 0 0 ts.length)] [(0, aE ts)] (aZ (.c (.rs 1 0 ts.length)) [(0, aE ts), (1, aE ts)]) := by
 cases ts with
 | nil => exact vr h1 h2
 | cons c r => exact vu h1 h2 hl
theorem tw {c : Int} {r : List Int} (hl : (c :: r).length ≤ 1000) : MQ h1 h2 132 [.c (.rs 0 0 (c :: r).length)] [(0, ba (c :: r))] (aZ (.c (.rs 1 0 (c :: r).length)) [(0, ba (c :: r)), (1, ba (c :: r))]) := by
 refine aF 500 Z (MC.keep [500,501] (bs := [ba (c :: r), ba (c :: r)]) Z Z (jH 8 [500] h1 h2 Tryz.func132 Z Z Z Z fun O hF => ?_))
 refine bZ ?_
 refine ag (js O Z (jn (AWP.seq (ag (j2 O Z Z (jn (AWP.cond O Z Z (fun hc4 => ?_) (fun hc4 => ?_))))))))
 exact absurd (show false = true from hc4) (by decide)
 refine AWP.skip (ag (AOps.heap (bE O Z Z Z) Z (aq ?_)))
 refine js O Z (jf [6,5,3,2,0] Z ?_)
 have hl2 := hl
 simp only [List.length_cons] at hl2
 refine AOps.heap (bD (own := true) (zs := (c :: r).map (fun n => [D.int .i64 n])) (n := (c :: r).length) O Z Z Z Z Z Z Z Z Z Z Z Z Z Z Z Z (.row Z Z) (.whole Z (by simp) (.inl (Scal.map (fun a => rfl)))) (by simp) Z (by simp; omega) (by simp; omega) Z (by simp)) Z (aq ?_)
 refine js O Z (jf [2,3,0] Z (jn (AWP.ret ?_)))
 refine ⟨.inl Z, _, af 7 501 Z Z, _, Z, Z, Z⟩
theorem tv : MQ h1 h2 132 [.c (.rs 0 0 0)] [(0, ba [])] (aZ (.c (.rs 1 0 0)) [(0, ba []), (1, ba [])]) := by
 refine aF 500 Z (MC.keep [500,501] (bs := [ba [], ba []]) Z Z (jH 8 [500] h1 h2 Tryz.func132 Z Z Z Z fun O hF => ?_))
 refine bZ ?_
 refine ag (js O Z (jn (AWP.seq (ag (js O Z (j1 O Z Z Z Z Z Z Z Z Z Z (fun b => ?_)))))))
 refine jn (AWP.cond O Z Z (fun hc4 => ?_) (fun hc4 => ?_))
 refine ag (js O Z (jn (AWP.ret ?_)))
 refine ⟨.inl Z, _, fi 2 501 1 true Z Z, _, Z, Z, Z⟩
 refine AWP.skip (ag (AOps.heap (bE O Z Z Z) Z (aq ?_)))
 refine js O Z (jf [6,5,3,2,0] Z (AOps.heap (bD (own := true) (zs := []) (n := 0) O Z Z Z Z Z Z Z Z Z Z Z Z Z Z Z Z (.row Z Z) (.whole Z (by simp) (.inl (Scal.map (fun a => rfl)))) (by simp) Z (by simp) (by simp) Z (by simp)) Z (aq ?_)))
 refine js O Z (jf [2,3,0] Z (jn (AWP.ret ?_)))
 refine ⟨.inl Z, _, af 7 501 Z Z, _, Z, Z, Z⟩
theorem tu {L : Nat} (h1 : 4096 ≤ L) (h2 : L ≤ 1073741824) {ts : List Int} (hl : ts.length ≤ 1000) : MC Tryz.prog L 132 [.c (.rs 0 0 ts.length)] [(0, ba ts)] (aZ (.c (.rs 1 0 ts.length)) [(0, ba ts), (1, ba ts)]) := by
 cases ts with
 | nil => exact tv h1 h2
 | cons c r => exact tw h1 h2 hl
theorem vq : MQ h1 h2 104 [.c (.d .nils)] [] (Plain (.c (.d .nils))) := by
 refine jB 8 h1 h2 Tryz.func104 Z Z Z fun O hF => ?_
 refine ag (js O Z (jn (AWP.seq (ag (j2 O Z Z (jn (AWP.cond O Z Z (fun hc4 => ?_) (fun hc4 => ?_))))))))
 refine ag (js O Z (jn (AWP.ret ?_)))
 refine ⟨.inl Z, _, Ent.refl, _, Z, ?_⟩
 exact ⟨Z, Z⟩
 exact absurd (show true = false from hc4) (by decide)
abbrev wA (frm : Int) (w : Pw) (i j k : Nat) : A := .agg [.d (.int .i64 frm), .rs i 0 w.vars.length, .d .nils, .rs j 0 w.facts.length, .rs k 0 w.ev.length, .d (.int .i64 (w.sym : Int))]
theorem oQ {frm : Int} {w : Pw} (hv : w.vars.length ≤ 1000) (hl : w.facts.length ≤ 1000) (he : w.ev.length ≤ 1000) : MQ h1 h2 115 [wA frm w 0 1 2] [(0, aE w.vars), (1, aE w.facts), (2, ba w.ev)] (aZ (wA frm w 3 4 5) [(0, aE w.vars), (1, aE w.facts), (2, ba w.ev), (3, aE w.vars), (4, aE w.facts), (5, ba w.ev)]) := by
 refine aF 500 Z (MC.keep [500,501,502,503,504,505] (bs := [aE w.vars, aE w.facts, ba w.ev, aE w.vars, aE w.facts, ba w.ev]) Z Z (jH 20 [500,501,502] h1 h2 Tryz.func115 Z Z Z Z fun O hF => ?_))
 refine bZ ?_
 refine ag (jx O Z Z Z Z Z Z Z Z (aq ?_))
 refine jf [1] Z (jl O Z Z Z Z Z Z (aq ?_))
 refine jn (AWP.seq (f6 O [_,_,_,_,_,_,_,_,_,_,_,_,_,_,_,_,_,_,_,_] [pn [] 0 0, pn [0] 0 0, pe [0,1] 0, pn [] 0 1, pn [3] 0 1, pe [0,1,2,3,4] 1, pn [] 0 2, pn [6] 0 2, pe [0,1,2,3,4,5,6,7] 2, pn [] 0 3, pn [9] 0 3, pe [0,1,2,3,4,5,6,7,8,9,10] 3, pn [0,1,2,3,4,6,7,9,10] 1 4, pe [0,1,2,3,4,5,6,7,8,9,10,11,12] 4, pn [0,1,2,3,4,5,6,7,8,9,10,11,12,13] 5 5, pe [0,1,2,3,4,5,6,7,8,9,10,11,12,13,14] 5, pn [0,1,2,3,4,5,6,7,8,9,10,11,12,13,14,15] 6 6, pe [0,1,2,3,4,5,6,7,8,9,10,11,12,13,14,15,16] 6, pn [0,1,2,3,4,5,6,7,8,9,10,11,12,13,14,15,16,17] 7 7, pe [0,1,2,3,4,5,6,7,8,9,10,11,12,13,14,15,16,17,18] 7] [2,5,8,11,13,15,17,19] [_,_,_,_,_,_,_,_,_] (kc O Z (kc O Z (ai (b0 O [500] (bin := [aE w.vars]) Z Z Z Z (sB h1 h2 hv) Z Z Z Z Z (B0 := 6000) Z Z Z Z Z Z) (ai (kc O Z (V O Z)) (ai (kc O Z (V O Z)) (ai (cb O (B0 := 9000) Z Z Z Z (vq h1 h2) (ab Z) Z Z Z Z Z) (ai (kc O Z (kc O Z (V O Z))) (ai (kc O Z (kc O Z (V O Z))) (ai (b0 O [501] (bin := [aE w.facts]) Z Z Z Z (sB h1 h2 hl) Z Z Z Z Z (B0 := 12000) Z Z Z Z Z Z) (ai (kc O Z (kc O Z (kc O Z (V O Z)))) (ai (kc O Z (kc O Z (kc O Z (V O Z)))) (ai (b0 O [502] (bin := [ba w.ev]) Z Z Z Z (tu h1 h2 he) Z Z Z Z Z (B0 := 15000) Z Z Z Z Z Z) (ai (kc O Z (kc O Z (kc O Z (V O Z)))) (ai (aC O Z Z Z Z Z Z Z Z Z Z Z Z Z) (kc O Z (ai (aC O Z Z Z Z Z Z Z Z Z Z Z Z Z) (kc O Z (ai (aC O Z Z Z Z Z Z Z Z Z Z Z Z Z) (kc O Z (ai (aC O Z Z Z Z Z Z Z Z Z Z Z Z Z) trivial)))))))))))))))))))) ?_))
 refine jw [2,1] Z (bZ ?_)
 refine ag (js O Z (jo O Z Z Z Z Z Z Z Z Z Z Z Z (aq ?_)))
 refine jn (AWP.ret ?_)
 refine ⟨.inl Z, _, ((af 6001 503 Z Z).trans (af 12001 504 Z Z)).trans (af 15001 505 Z Z), _, Z, Z, Z⟩
theorem qK {c : Pc} {g : Gs} {t : Tm} {ok : Bool} : MQ h1 h2 113 [.c (.pt 0 0 0), cZ t, eB ok] [(0, iB c g 1 2 3), (1, ax g.paths), (2, ay g.conds), (3, aL c.num)] (aZ (cZ t) [(0, iB c (g.flag (!ok)) 1 2 3), (1, ax (g.flag (!ok)).paths), (2, ay (g.flag (!ok)).conds), (3, aL c.num)]) := by
 refine aF 500 Z (MC.keep [500,501,502,503] (bs := [iB c (g.flag (!ok)) 501 502 503, ax (g.flag (!ok)).paths, ay (g.flag (!ok)).conds, aL c.num]) Z Z (jH 13 [500,501,502,503] h1 h2 Tryz.func113 Z Z Z Z fun O hF => ?_))
 refine bZ ?_
 refine ag (jx O Z Z Z Z Z Z Z Z (aq ?_))
 refine jf [4,0,2] Z (jl O Z Z Z Z Z Z (aq ?_))
 refine jn (AWP.seq (ag (j2 O Z Z (jf [8,6,4,0] Z (jn (AWP.cond O Z Z (fun hc8 => ?_) (fun hc8 => ?_)))))))
 refine AWP.region (j3 O Z Z Z (jf [11,6,4] Z (jo O Z Z Z Z Z Z Z Z Z Z Z Z (aq ?_))))
 refine aP (js O Z (jf [12,11,6] Z (jo O Z Z Z Z Z Z Z Z Z Z Z Z (aq ?_))))
 refine jn (AWP.ret ?_)
 have hok : ok = false := by simpa using hc8
 subst hok
 rw [show g.flag (!false) = ⟨g.paths, g.conds, true⟩ from gT]
 refine ⟨.inl Z, _, Ent.refl, _, Z, Z, Z⟩
 refine AWP.skip (ag (js O Z (jf [12,6,0] Z (jo O Z Z Z Z Z Z Z Z Z Z Z Z (aq ?_)))))
 refine jn (AWP.ret ?_)
 have hok : ok = true := by simpa using hc8
 subst hok
 rw [show g.flag (!true) = g from eT]
 refine ⟨.inl Z, _, Ent.refl, _, Z, Z, Z⟩
end Go.Al
