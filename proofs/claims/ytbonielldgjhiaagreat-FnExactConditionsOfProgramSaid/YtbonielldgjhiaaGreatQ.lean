/- The program follows a path. -/
import Derived.Test.YtbonielldgjhiaaGreatP
set_option linter.unusedVariables false
set_option linter.unusedSimpArgs false
set_option maxRecDepth 10000
set_option maxHeartbeats 4000000
open Go.Proofs
namespace Go.Al
variable {L : Nat} (h1 : 4096 ≤ L) (h2 : L ≤ 1073741824)
abbrev xB (d : D) : B := .box [.d d]
abbrev pB (l : Nat) : B := .box [.pt l 0 0]
abbrev iT (c : Pc) (g : Gs) (w : Pw) (d8 d9 : D) : List (Nat × B) := [(0, iB c g 1 2 3), (1, ax g.paths), (2, ay g.conds), (3, aL c.num), (4, aE w.vars), (5, aE w.facts), (6, ba w.ev), (7, pB 0), (8, xB d8), (9, xB d9)]
abbrev oT (c : Pc) (g : Gs) (d8 d9 : D) : List (Nat × B) := [(0, iB c g 10 11 3), (3, aL c.num), (7, pB 0), (8, xB d8), (9, xB d9), (10, ax g.paths), (11, ay g.conds)]
abbrev bS (w : Pw) (t : Tm) (g : Gs) : Gs := (g.flag (!(bo t).2)).flag (w.fact t).long
theorem iU {g : Gs} (h : g.bad = true) {b : Bool} : g.flag b = g := by cases g; simp only at h; simp [Gs.flag, h]
def j7 (Y : Pw → Gs → Gs) : Prop := ∀ u g, g.bad = true → Y u g = g
theorem qA {Y : Pw → Gs → Gs} (hY : j7 Y) {w : Pw} {t u : Tm} {g : Gs} (hb : (Y (w.fact t) (bS w t g)).bad = false) : (Y (w.fact t) (bS w t g)).flag (w.fact u).long = Y (w.fact t) (bS w t g) := by
 have h2 : (bS w t g).bad = false := by
  cases h : (bS w t g).bad with
  | false => rfl
  | true => rw [hY _ _ h, h] at hb; cases hb
 have h3 : (w.fact t).long = false := by simp [bS, Gs.flag] at h2; exact h2.2
 rw [mi (t := u) (u := t), h3, jT]
theorem sk {Y N : Pw → Gs → Gs} (hY : j7 Y) (hN : j7 N) {w : Pw} {t : Tm} {g : Gs} (h : (g.flag (!(bo t).2)).bad = true) : cT Y N w t g = g.flag (!(bo t).2) := by
 rw [cT, iU h, hY _ _ h, hN _ _ h]
theorem sj {Y N : Pw → Gs → Gs} (hY : j7 Y) (hN : j7 N) {w : Pw} {t : Tm} {g : Gs} (h : (bS w t g).bad = true) : cT Y N w t g = bS w t g := by
 rw [cT, hY _ _ h, hN _ _ h]
theorem si {Y N : Pw → Gs → Gs} (hN : j7 N) {w : Pw} {t : Tm} {g : Gs} (h : (Y (w.fact t) (bS w t g)).bad = true) : cT Y N w t g = Y (w.fact t) (bS w t g) := by
 rw [cT, hN _ _ h]
theorem qL {L : Nat} (h1 : 4096 ≤ L) (h2 : L ≤ 1073741824) {c : Pc} {g : Gs} {frm : Int} {w : Pw} {t : Tm} (hl : w.facts.length ≤ 1000) (he : g.flag (w.fact t).long = g) : MC Tryz.prog L 110 [.c (.pt 0 0 0), .c (.pt 4 0 0), cZ t] (iH c g frm w) (aZ (.tup []) (xc c g frm (w.fact t))) := by
 have h := oR h1 h2 (c := c) (g := g) (frm := frm) (w := w) (t := t) hl
 rw [he] at h
 exact h
theorem tF {c : Pc} {g : Gs} {frm : Int} {w : Pw} {t : Tm} {d8 d9 : D} {fy fn : Nat} {Y N : Pw → Gs → Gs} (hY : j7 Y) (hN : j7 N) (ht : t.ok = true) (hv : w.vars.length ≤ 1000) (hl : w.facts.length ≤ 1000) (he : w.ev.length ≤ 1000)
  (hy : (bS w t g).bad = false → MQ h1 h2 fy [wA frm (w.fact t) 4 5 6, .c (.pt 7 0 0), .c (.pt 8 0 0), .c (.pt 9 0 0)] (iT c (bS w t g) (w.fact t) d8 d9) (aZ (.tup []) (oT c (Y (w.fact t) (bS w t g)) d8 d9))) (hn : (Y (w.fact t) (bS w t g)).bad = false → MQ h1 h2 fn [wA frm (w.fact (bo t).1) 4 5 6, .c (.pt 7 0 0), .c (.pt 8 0 0), .c (.pt 9 0 0)] (iT c (Y (w.fact t) (bS w t g)) (w.fact (bo t).1) d8 d9) (aZ (.tup []) (oT c (N (w.fact (bo t).1) (Y (w.fact t) (bS w t g))) d8 d9))) :
  MQ h1 h2 86 [.c (.pt 0 0 0), wA frm w 4 5 6, cZ t, .c (.fn fy [.pt 7 0 0, .pt 8 0 0, .pt 9 0 0]), .c (.fn fn [.pt 7 0 0, .pt 8 0 0, .pt 9 0 0])] (iT c g w d8 d9) (aZ (.tup []) (oT c (cT Y N w t g) d8 d9)) := by
 refine aF 500 Z (MC.keep [500,503,507,508,509,510,511] (bs := [iB c (cT Y N w t g) 510 511 503, aL c.num, pB 500, xB d8, xB d9, ax (cT Y N w t g).paths, ay (cT Y N w t g).conds]) Z Z (jH 53 [500,501,502,503,504,505,506,507,508,509] h1 h2 Tryz.func86 Z Z Z Z fun O hF => ?_))
 refine bZ ?_
 refine ag (jx O Z Z Z Z Z Z Z Z (aq ?_))
 refine jf [6,0,2,3,4] Z (jx O Z Z Z Z Z Z Z Z (aq ?_))
 refine aA (Ent.freeze 7 (e' := [(7, _), (6, _), (0, _), (3, _), (4, _)]) Z (.cons Z (.c (.box (cs := Tm.cells t) Z (aw Z))) (.cons Z (.keep Z) (.cons Z (.keep Z) (.cons Z (.keep Z) (.cons Z (.keep Z) .nil))))) (.cons Z (.box (.cons (.keep Z) (.cons (.keep Z) (.cons (.keep Z) (.cons (.keep Z) (.cons (.keep Z) (.cons (.keep Z) .nil))))))) (.skip (.cons Z (.box (.cons (.keep Z) (.cons (.keep Z) (.cons (.keep Z) (.cons (.keep Z) (.cons (.keep Z) (.cons (.keep Z) (.cons (.keep Z) (.cons (.keep Z) (.cons (.keep Z) .nil)))))))))) (.cons Z .row (.cons Z .row (.cons Z .map (.cons Z .row (.cons Z .row (.cons Z .row (.cons Z (.box (.cons (.keep Z) .nil)) (.cons Z (.box (.cons (.keep Z) .nil)) (.cons Z (.box (.cons (.keep Z) .nil)) .nil))))))))))))) ?_
 refine aq ?_
 refine aP (j2 O Z Z (ao O Z Z Z Z (sC (t := t) h1 h2 ht) (ab Z) Z Z Z Z (B0 := 16000) Z Z (j2 O Z Z (jf [17,16,13,7,6,0,3,4] Z (ap O [500,501,502,503] (bin := [iB c g 1 2 3, ax g.paths, ay g.conds, aL c.num]) Z Z Z Z (qK (c := c) (g := g) (t := (bo t).1) (ok := (bo t).2) h1 h2) Z Z Z Z Z Z (B0 := 19000) Z Z (aq ?_))))))
 refine jf [18,7,6,0,3,4] Z (jl O Z Z Z Z Z Z (aq ?_))
 refine jo O Z Z Z Z Z Z Z Z Z Z Z Z (aq ?_)
 refine aA (Ent.freeze 10 (e' := [(10, _), (6, _), (7, _), (0, _), (3, _), (4, _)]) Z (.cons Z (.c (.box (cs := Tm.cells (bo t).1) Z (aw Z))) (.cons Z (.keep Z) (.cons Z (.keep Z) (.cons Z (.keep Z) (.cons Z (.keep Z) (.cons Z (.keep Z) .nil)))))) (.cons Z (.box (.cons (.keep Z) (.cons (.keep Z) (.cons (.keep Z) (.cons (.keep Z) (.cons (.keep Z) (.cons (.keep Z) .nil))))))) (.skip (.cons Z .row (.cons Z .row (.cons Z .row (.cons Z (.box (.cons (.keep Z) .nil)) (.cons Z (.box (.cons (.keep Z) .nil)) (.cons Z (.box (.cons (.keep Z) .nil)) (.cons Z (.box (.cons (.keep Z) (.cons (.keep Z) (.cons (.keep Z) (.cons (.keep Z) (.cons (.keep Z) (.cons (.keep Z) (.cons (.keep Z) (.cons (.keep Z) (.cons (.keep Z) .nil)))))))))) (.cons Z .row (.cons Z .row (.cons Z .map .nil))))))))))))) ?_
 refine aq ?_
 refine jn (AWP.seq (ag (j4 O Z Z Z Z (jf [22,10,6,7,0,3,4] Z (jn (AWP.cond O Z Z (fun hc22 => ?_) (fun hc22 => ?_)))))))
 refine AWP.ret ?_
 rw [sk hY hN hc22]
 refine ⟨.inl Z, _, (af 501 510 Z Z).trans (af 502 511 Z Z), _, Z, Z, Z⟩
 refine AWP.skip (ag (js O Z (jf [23,10,6,7,0,3,4] Z (ap O [504,505,506] (bin := [aE w.vars, aE w.facts, ba w.ev]) Z Z Z Z (oQ (frm := frm) (w := w) h1 h2 hv hl he) Z Z Z Z Z Z (B0 := 25000) Z Z (aq ?_)))))
 refine jf [24,10,6,7,0,3,4] Z (jl O Z Z Z Z Z Z (aq ?_))
 refine jo O Z Z Z Z Z Z Z Z Z Z Z Z (aq ?_)
 refine aP (j2 O Z Z (ap O [500,501,502,503,11,25003,25004,25005] (bin := [iB c (g.flag (!(bo t).2)) 1 2 3, ax (g.flag (!(bo t).2)).paths, ay (g.flag (!(bo t).2)).conds, aL c.num, iW frm w 5 6 7, aE w.vars, aE w.facts, ba w.ev]) Z Z Z Z (oR (c := c) (g := (g.flag (!(bo t).2))) (frm := frm) (w := w) (t := t) h1 h2 hl) Z Z Z Z Z Z (B0 := 28000) Z Z (aq ?_)))
 refine jf [11,24,10,6,7,0,3,4] Z (jn (AWP.seq (ag (j4 O Z Z Z Z (js O Z (jf [32,11,24,10,6,7,0,3,4] Z (jn (AWP.cond O Z Z (fun hc32 => ?_) (fun hc32 => ?_)))))))))
 refine AWP.region (j2 O Z Z (jf [34,33,11,24,10,6,7,0,4] Z (ap O [500,501,502,503,25003,28009,25005,507,508,509] (bin := [iB c (bS w t g) 1 2 3, ax (bS w t g).paths, ay (bS w t g).conds, aL c.num, aE (w.fact t).vars, aE (w.fact t).facts, ba (w.fact t).ev, pB 0, xB d8, xB d9]) Z Z Z Z (hy (by simpa using hc32)) Z Z Z Z Z Z (B0 := 36000) Z Z (aq ?_))))
 refine jf [11,24,10,6,7,0,4] Z (jn (AWP.seq (ag (j4 O Z Z Z Z (jf [39,11,24,10,6,7,0,4] Z (jn (AWP.cond O Z Z (fun hc39 => ?_) (fun hc39 => ?_))))))))
 refine AWP.ret ?_
 rw [si hN hc39]
 refine ⟨.inl Z, _, (af 36010 510 Z Z).trans (af 36011 511 Z Z), _, Z, Z, Z⟩
 refine AWP.skip (ag (js O Z (jf [40,11,24,10,6,7,0,4] Z (ap O [504,505,506] (bin := [aE w.vars, aE w.facts, ba w.ev]) Z Z Z Z (oQ (frm := frm) (w := w) h1 h2 hv hl he) Z Z Z Z Z Z (B0 := 42000) Z Z (aq ?_)))))
 refine jf [41,11,24,10,6,7,0,4] Z (jl O Z Z Z Z Z Z (aq ?_))
 refine jo O Z Z Z Z Z Z Z Z Z Z Z Z (aq ?_)
 refine aP (j2 O Z Z (ap O [500,36010,36011,503,12,42003,42004,42005] (bin := [iB c (Y (w.fact t) (bS w t g)) 1 2 3, ax (Y (w.fact t) (bS w t g)).paths, ay (Y (w.fact t) (bS w t g)).conds, aL c.num, iW frm w 5 6 7, aE w.vars, aE w.facts, ba w.ev]) Z Z Z Z (qL (c := c) (g := (Y (w.fact t) (bS w t g))) (frm := frm) (w := w) (t := (bo t).1) h1 h2 hl (qA hY hc39)) Z Z Z Z Z Z (B0 := 45000) Z Z (aq ?_)))
 refine jf [12,41,11,24,10,6,7,0,4] Z (aP (j4 O Z Z Z Z (js O Z (jf [49,12,41,11,24,10,6,7,0,4] Z (jn (AWP.cond O Z Z (fun hc49 => ?_) (fun hc49 => ?_)))))))
 refine AWP.region (j2 O Z Z (jf [51,50,12,41,11,24,10,6,7,0] Z (ap O [500,36010,36011,503,42003,45009,42005,507,508,509] (bin := [iB c (Y (w.fact t) (bS w t g)) 1 2 3, ax (Y (w.fact t) (bS w t g)).paths, ay (Y (w.fact t) (bS w t g)).conds, aL c.num, aE (w.fact (bo t).1).vars, aE (w.fact (bo t).1).facts, ba (w.fact (bo t).1).ev, pB 0, xB d8, xB d9]) Z Z Z Z (hn hc39) Z Z Z Z Z Z (B0 := 53000) Z Z (aq ?_))))
 refine jf [12,41,11,24,10,6,7,0] Z (jn ?_)
 show _ ∧ _
 refine ⟨.inr Z, _, (af 53010 510 Z Z).trans (af 53011 511 Z Z), _, Z, Z, Z⟩
 exact absurd (show (!(Y (w.fact t) (bS w t g)).bad) = false from hc49) (by rw [show (Y (w.fact t) (bS w t g)).bad = false from hc39]; decide)
 refine AWP.skip (AWP.seq (ag (j4 O Z Z Z Z (jf [39,11,24,10,6,7,0,3,4] Z (jn (AWP.cond O Z Z (fun hc39 => ?_) (fun hc39 => ?_)))))))
 refine AWP.ret ?_
 rw [sj hY hN hc39]
 refine ⟨.inl Z, _, (af 501 510 Z Z).trans (af 502 511 Z Z), _, Z, Z, Z⟩
 exact absurd (show (!(bS w t g).bad) = false from hc32) (by rw [show (bS w t g).bad = false from hc39]; decide)
theorem tE {c : Pc} {g : Gs} {frm : Int} {w : Pw} {t : Tm} {d8 d9 : D} {fy fn : Nat} {Y N : Pw → Gs → Gs} (hY : j7 Y) (hN : j7 N) (ht : t.ok = true) (hv : w.vars.length ≤ 1000) (hl : w.facts.length ≤ 1000) (he : w.ev.length ≤ 1000)
  (hy : (bS w t g).bad = false → MQ h1 h2 fy [wA frm (w.fact t) 4 5 6, .c (.pt 7 0 0), .c (.pt 8 0 0), .c (.pt 9 0 0)] (iT c (bS w t g) (w.fact t) d8 d9) (aZ (.tup []) (oT c (Y (w.fact t) (bS w t g)) d8 d9))) (hn : (Y (w.fact t) (bS w t g)).bad = false → MQ h1 h2 fn [wA frm (w.fact (bo t).1) 4 5 6, .c (.pt 7 0 0), .c (.pt 9 0 0)] (iT c (Y (w.fact t) (bS w t g)) (w.fact (bo t).1) d8 d9) (aZ (.tup []) (oT c (N (w.fact (bo t).1) (Y (w.fact t) (bS w t g))) d8 d9))) :
  MQ h1 h2 86 [.c (.pt 0 0 0), wA frm w 4 5 6, cZ t, .c (.fn fy [.pt 7 0 0, .pt 8 0 0, .pt 9 0 0]), .c (.fn fn [.pt 7 0 0, .pt 9 0 0])] (iT c g w d8 d9) (aZ (.tup []) (oT c (cT Y N w t g) d8 d9)) := by
 refine aF 500 Z (MC.keep [500,503,507,508,509,510,511] (bs := [iB c (cT Y N w t g) 510 511 503, aL c.num, pB 500, xB d8, xB d9, ax (cT Y N w t g).paths, ay (cT Y N w t g).conds]) Z Z (jH 53 [500,501,502,503,504,505,506,507,508,509] h1 h2 Tryz.func86 Z Z Z Z fun O hF => ?_))
 refine bZ ?_
 refine ag (jx O Z Z Z Z Z Z Z Z (aq ?_))
 refine jf [6,0,2,3,4] Z (jx O Z Z Z Z Z Z Z Z (aq ?_))
 refine aA (Ent.freeze 7 (e' := [(7, _), (6, _), (0, _), (3, _), (4, _)]) Z (.cons Z (.c (.box (cs := Tm.cells t) Z (aw Z))) (.cons Z (.keep Z) (.cons Z (.keep Z) (.cons Z (.keep Z) (.cons Z (.keep Z) .nil))))) (.cons Z (.box (.cons (.keep Z) (.cons (.keep Z) (.cons (.keep Z) (.cons (.keep Z) (.cons (.keep Z) (.cons (.keep Z) .nil))))))) (.skip (.cons Z (.box (.cons (.keep Z) (.cons (.keep Z) (.cons (.keep Z) (.cons (.keep Z) (.cons (.keep Z) (.cons (.keep Z) (.cons (.keep Z) (.cons (.keep Z) (.cons (.keep Z) .nil)))))))))) (.cons Z .row (.cons Z .row (.cons Z .map (.cons Z .row (.cons Z .row (.cons Z .row (.cons Z (.box (.cons (.keep Z) .nil)) (.cons Z (.box (.cons (.keep Z) .nil)) (.cons Z (.box (.cons (.keep Z) .nil)) .nil))))))))))))) ?_
 refine aq ?_
 refine aP (j2 O Z Z (ao O Z Z Z Z (sC (t := t) h1 h2 ht) (ab Z) Z Z Z Z (B0 := 16000) Z Z (j2 O Z Z (jf [17,16,13,7,6,0,3,4] Z (ap O [500,501,502,503] (bin := [iB c g 1 2 3, ax g.paths, ay g.conds, aL c.num]) Z Z Z Z (qK (c := c) (g := g) (t := (bo t).1) (ok := (bo t).2) h1 h2) Z Z Z Z Z Z (B0 := 19000) Z Z (aq ?_))))))
 refine jf [18,7,6,0,3,4] Z (jl O Z Z Z Z Z Z (aq ?_))
 refine jo O Z Z Z Z Z Z Z Z Z Z Z Z (aq ?_)
 refine aA (Ent.freeze 10 (e' := [(10, _), (6, _), (7, _), (0, _), (3, _), (4, _)]) Z (.cons Z (.c (.box (cs := Tm.cells (bo t).1) Z (aw Z))) (.cons Z (.keep Z) (.cons Z (.keep Z) (.cons Z (.keep Z) (.cons Z (.keep Z) (.cons Z (.keep Z) .nil)))))) (.cons Z (.box (.cons (.keep Z) (.cons (.keep Z) (.cons (.keep Z) (.cons (.keep Z) (.cons (.keep Z) (.cons (.keep Z) .nil))))))) (.skip (.cons Z .row (.cons Z .row (.cons Z .row (.cons Z (.box (.cons (.keep Z) .nil)) (.cons Z (.box (.cons (.keep Z) .nil)) (.cons Z (.box (.cons (.keep Z) .nil)) (.cons Z (.box (.cons (.keep Z) (.cons (.keep Z) (.cons (.keep Z) (.cons (.keep Z) (.cons (.keep Z) (.cons (.keep Z) (.cons (.keep Z) (.cons (.keep Z) (.cons (.keep Z) .nil)))))))))) (.cons Z .row (.cons Z .row (.cons Z .map .nil))))))))))))) ?_
 refine aq ?_
 refine jn (AWP.seq (ag (j4 O Z Z Z Z (jf [22,10,6,7,0,3,4] Z (jn (AWP.cond O Z Z (fun hc22 => ?_) (fun hc22 => ?_)))))))
 refine AWP.ret ?_
 rw [sk hY hN hc22]
 refine ⟨.inl Z, _, (af 501 510 Z Z).trans (af 502 511 Z Z), _, Z, Z, Z⟩
 refine AWP.skip (ag (js O Z (jf [23,10,6,7,0,3,4] Z (ap O [504,505,506] (bin := [aE w.vars, aE w.facts, ba w.ev]) Z Z Z Z (oQ (frm := frm) (w := w) h1 h2 hv hl he) Z Z Z Z Z Z (B0 := 25000) Z Z (aq ?_)))))
 refine jf [24,10,6,7,0,3,4] Z (jl O Z Z Z Z Z Z (aq ?_))
 refine jo O Z Z Z Z Z Z Z Z Z Z Z Z (aq ?_)
 refine aP (j2 O Z Z (ap O [500,501,502,503,11,25003,25004,25005] (bin := [iB c (g.flag (!(bo t).2)) 1 2 3, ax (g.flag (!(bo t).2)).paths, ay (g.flag (!(bo t).2)).conds, aL c.num, iW frm w 5 6 7, aE w.vars, aE w.facts, ba w.ev]) Z Z Z Z (oR (c := c) (g := (g.flag (!(bo t).2))) (frm := frm) (w := w) (t := t) h1 h2 hl) Z Z Z Z Z Z (B0 := 28000) Z Z (aq ?_)))
 refine jf [11,24,10,6,7,0,3,4] Z (jn (AWP.seq (ag (j4 O Z Z Z Z (js O Z (jf [32,11,24,10,6,7,0,3,4] Z (jn (AWP.cond O Z Z (fun hc32 => ?_) (fun hc32 => ?_)))))))))
 refine AWP.region (j2 O Z Z (jf [34,33,11,24,10,6,7,0,4] Z (ap O [500,501,502,503,25003,28009,25005,507,508,509] (bin := [iB c (bS w t g) 1 2 3, ax (bS w t g).paths, ay (bS w t g).conds, aL c.num, aE (w.fact t).vars, aE (w.fact t).facts, ba (w.fact t).ev, pB 0, xB d8, xB d9]) Z Z Z Z (hy (by simpa using hc32)) Z Z Z Z Z Z (B0 := 36000) Z Z (aq ?_))))
 refine jf [11,24,10,6,7,0,4] Z (jn (AWP.seq (ag (j4 O Z Z Z Z (jf [39,11,24,10,6,7,0,4] Z (jn (AWP.cond O Z Z (fun hc39 => ?_) (fun hc39 => ?_))))))))
 refine AWP.ret ?_
 rw [si hN hc39]
 refine ⟨.inl Z, _, (af 36010 510 Z Z).trans (af 36011 511 Z Z), _, Z, Z, Z⟩
 refine AWP.skip (ag (js O Z (jf [40,11,24,10,6,7,0,4] Z (ap O [504,505,506] (bin := [aE w.vars, aE w.facts, ba w.ev]) Z Z Z Z (oQ (frm := frm) (w := w) h1 h2 hv hl he) Z Z Z Z Z Z (B0 := 42000) Z Z (aq ?_)))))
 refine jf [41,11,24,10,6,7,0,4] Z (jl O Z Z Z Z Z Z (aq ?_))
 refine jo O Z Z Z Z Z Z Z Z Z Z Z Z (aq ?_)
 refine aP (j2 O Z Z (ap O [500,36010,36011,503,12,42003,42004,42005] (bin := [iB c (Y (w.fact t) (bS w t g)) 1 2 3, ax (Y (w.fact t) (bS w t g)).paths, ay (Y (w.fact t) (bS w t g)).conds, aL c.num, iW frm w 5 6 7, aE w.vars, aE w.facts, ba w.ev]) Z Z Z Z (qL (c := c) (g := (Y (w.fact t) (bS w t g))) (frm := frm) (w := w) (t := (bo t).1) h1 h2 hl (qA hY hc39)) Z Z Z Z Z Z (B0 := 45000) Z Z (aq ?_)))
 refine jf [12,41,11,24,10,6,7,0,4] Z (aP (j4 O Z Z Z Z (js O Z (jf [49,12,41,11,24,10,6,7,0,4] Z (jn (AWP.cond O Z Z (fun hc49 => ?_) (fun hc49 => ?_)))))))
 refine AWP.region (j2 O Z Z (jf [51,50,12,41,11,24,10,6,7,0] Z (ap O [500,36010,36011,503,42003,45009,42005,507,508,509] (bin := [iB c (Y (w.fact t) (bS w t g)) 1 2 3, ax (Y (w.fact t) (bS w t g)).paths, ay (Y (w.fact t) (bS w t g)).conds, aL c.num, aE (w.fact (bo t).1).vars, aE (w.fact (bo t).1).facts, ba (w.fact (bo t).1).ev, pB 0, xB d8, xB d9]) Z Z Z Z (hn hc39) Z Z Z Z Z Z (B0 := 53000) Z Z (aq ?_))))
 refine jf [12,41,11,24,10,6,7,0] Z (jn ?_)
 show _ ∧ _
 refine ⟨.inr Z, _, (af 53010 510 Z Z).trans (af 53011 511 Z Z), _, Z, Z, Z⟩
 exact absurd (show (!(Y (w.fact t) (bS w t g)).bad) = false from hc49) (by rw [show (Y (w.fact t) (bS w t g)).bad = false from hc39]; decide)
 refine AWP.skip (AWP.seq (ag (j4 O Z Z Z Z (jf [39,11,24,10,6,7,0,3,4] Z (jn (AWP.cond O Z Z (fun hc39 => ?_) (fun hc39 => ?_)))))))
 refine AWP.ret ?_
 rw [sj hY hN hc39]
 refine ⟨.inl Z, _, (af 501 510 Z Z).trans (af 502 511 Z Z), _, Z, Z, Z⟩
 exact absurd (show (!(bS w t g).bad) = false from hc32) (by rw [show (bS w t g).bad = false from hc39]; decide)
def fD : List Fr → D
  | [] => .nilp
  | .st t :: r => .ptr [t.d, .int .i64 0, fD r] 0
  | .lp k :: _ => .ptr [.nilp, .int .i64 (k : Nat), .nilp] 0
abbrev iF (c : Pc) (g : Gs) (w : Pw) : List (Nat × B) := [(0, iB c g 1 2 3), (1, ax g.paths), (2, ay g.conds), (3, aL c.num), (4, aE w.vars), (5, aE w.facts), (6, ba w.ev)]
abbrev oF (c : Pc) (g : Gs) : List (Nat × B) := [(0, iB c g 10 11 3), (3, aL c.num), (10, ax g.paths), (11, ay g.conds)]
abbrev rG (a b c : D) : B := .box [.d a, .d b, .d c]
abbrev j8 (L : Nat) (c : Pc) (frm : Int) (w : Pw) (g : Gs) (d : D) (g' : Gs) : Prop := MC Tryz.prog L 85 [.c (.pt 0 0 0), wA frm w 4 5 6, .c (.d d)] (iF c g w) (aZ (.tup []) (oF c g'))
theorem oN {L : Nat} {c : Pc} {frm : Int} {w : Pw} {g g' : Gs} {d1 d2 d3 : D} (h : j8 L c frm w g (.ptr [d1, d2, d3] 0) g') : MC Tryz.prog L 85 [.c (.pt 0 0 0), wA frm w 4 5 6, .c (.pt 7 0 0)] (iF c g w ++ [(7, rG d1 d2 d3)]) (aZ (.tup []) (oF c g')) :=
  MC.freeze 7 Z (.cons (.keep Z) (.cons (.keep Z) (.cons (.c (.box Z (aw Z))) .nil))) (.cons Z (.box (.cons (.keep Z) (.cons (.keep Z) (.cons (.keep Z) (.cons (.keep Z) (.cons (.keep Z) (.cons (.keep Z) (.cons (.keep Z) (.cons (.keep Z) (.cons (.keep Z) .nil)))))))))) (.cons Z .row (.cons Z .row (.cons Z .map (.cons Z .row (.cons Z .row (.cons Z .row (.skip .nil)))))))) Z h
theorem tn {L : Nat} {c : Pc} {frm : Int} {w : Pw} {g g' : Gs} {d1 d2 e1 e2 e3 : D} (h : j8 L c frm w g (.ptr [d1, d2, .ptr [e1, e2, e3] 0] 0) g') : MC Tryz.prog L 85 [.c (.pt 0 0 0), wA frm w 4 5 6, .c (.pt 7 0 0)] (iF c g w ++ [(7, .box [.d d1, .d d2, .pt 8 0 0]), (8, rG e1 e2 e3)]) (aZ (.tup []) (oF c g')) :=
  MC.freeze 8 Z (.cons (.keep Z) (.cons (.keep Z) (.cons (.keep Z) .nil))) (.cons Z (.box (.cons (.keep Z) (.cons (.keep Z) (.cons (.keep Z) (.cons (.keep Z) (.cons (.keep Z) (.cons (.keep Z) (.cons (.keep Z) (.cons (.keep Z) (.cons (.keep Z) .nil)))))))))) (.cons Z .row (.cons Z .row (.cons Z .map (.cons Z .row (.cons Z .row (.cons Z .row (.cons Z (.box (.cons (.keep Z) (.cons (.keep Z) (.cons (.box Z (aw Z)) .nil)))) (.skip .nil))))))))) Z (oN h)
theorem vA {c : Pc} {g g' : Gs} {frm : Int} {w : Pw} {s : Sm} {a : Int} {x y : Tr} {r : List Fr} (ih : j8 L c frm w g (fD (.st x :: r)) g') : MQ h1 h2 111 [wA frm w 4 5 6, .c (.pt 7 0 0), .c (.pt 8 0 0), .c (.pt 9 0 0)] (iT c g w (Tr.d (.node s a [x, y])) (fD r)) (aZ (.tup []) (oT c g' (Tr.d (.node s a [x, y])) (fD r))) := by
 refine aF 500 Z (MC.keep [500,503,507,508,509,510,511] (bs := [iB c g' 510 511 503, aL c.num, pB 500, xB (Tr.d (.node s a [x, y])), xB (fD r), ax g'.paths, ay g'.conds]) Z Z (jH 17 [500,501,502,503,504,505,506,507,508,509] h1 h2 Tryz.func111 Z Z Z Z fun O hF => ?_))
 refine bZ ?_
 refine ag (jx O Z Z Z Z Z Z Z Z (aq ?_))
 refine jn (jE O [_,_,_,_,_,_,_,_,_,_,_,_] [pn [] 0 1, pn [] 0 1, pn [] 0 0, pn [2] 0 0, pn [2,3] 0 0, pn [2,3,4] 0 0, pn [2,3,4,5] 0 0, pn [2,3,4,5,6] 0 0, pn [] 0 0, pn [2,3,4,5,6,7,8] 0 0, pe [2,3,4,5,6,7,8,9] 0, pe [0,1,2,3,4,5,6,7,8,9,10] 1] [10,11] [_,_,_] [[], [501,502,504,505,506,15]] (ai (ka O Z Z (kw O Z Z)) (ai (ka O Z Z (kw O Z Z)) (ka O Z Z (ka O Z Z (ka O Z Z (ka O Z Z (ai (ai (aV O Z Z Z Z Z Z Z Z (by simp [Trs.d]) Z) Z) (ka O Z Z (ka O Z Z (ka O Z Z (ai (ai (aO (Eff.box O Z Z Z Z Z Z Z Z)) Z) (ai (ai (bM O [500,501,502,503,504,505,506,15] [501,502,504,505,506,15] (bin := [iB c g 1 2 3, ax g.paths, ay g.conds, aL c.num, aE w.vars, aE w.facts, ba w.ev, rG (Tr.d x) (.int .i64 0) (fD r)]) Z Z Z Z (oN ih) Z Z Z Z Z (B0 := 17000) Z Z Z Z Z Z Z) Z) trivial)))))))))))) ?_)
 show _ ∧ _
 apply gm
 repeat' (first | apply HN.cons Z | exact HN.nil Z | exact BN.row Z | exact BN.map Z | apply BN.box Z | apply MN.cons Z | exact MN.nil Z | exact XN.d Z | exact XN.rs Z | exact c5)
 refine ⟨.inr Z, _, (af 17010 510 Z Z).trans (af 17011 511 Z Z), _, Z, Z, Z⟩
theorem vz {c : Pc} {g g' : Gs} {frm : Int} {w : Pw} {s : Sm} {a : Int} {x y : Tr} {r : List Fr} (ih : j8 L c frm w g (fD (.st y :: r)) g') : MQ h1 h2 112 [wA frm w 4 5 6, .c (.pt 7 0 0), .c (.pt 8 0 0), .c (.pt 9 0 0)] (iT c g w (Tr.d (.node s a [x, y])) (fD r)) (aZ (.tup []) (oT c g' (Tr.d (.node s a [x, y])) (fD r))) := by
 refine aF 500 Z (MC.keep [500,503,507,508,509,510,511] (bs := [iB c g' 510 511 503, aL c.num, pB 500, xB (Tr.d (.node s a [x, y])), xB (fD r), ax g'.paths, ay g'.conds]) Z Z (jH 17 [500,501,502,503,504,505,506,507,508,509] h1 h2 Tryz.func112 Z Z Z Z fun O hF => ?_))
 refine bZ ?_
 refine ag (jx O Z Z Z Z Z Z Z Z (aq ?_))
 refine jn (jE O [_,_,_,_,_,_,_,_,_,_,_,_] [pn [] 0 1, pn [] 0 1, pn [] 0 0, pn [2] 0 0, pn [2,3] 0 0, pn [2,3,4] 0 0, pn [2,3,4,5] 0 0, pn [2,3,4,5,6] 0 0, pn [] 0 0, pn [2,3,4,5,6,7,8] 0 0, pe [2,3,4,5,6,7,8,9] 0, pe [0,1,2,3,4,5,6,7,8,9,10] 1] [10,11] [_,_,_] [[], [501,502,504,505,506,15]] (ai (ka O Z Z (kw O Z Z)) (ai (ka O Z Z (kw O Z Z)) (ka O Z Z (ka O Z Z (ka O Z Z (ka O Z Z (ai (ai (aV O Z Z Z Z Z Z Z Z (by simp [Trs.d]) Z) Z) (ka O Z Z (ka O Z Z (ka O Z Z (ai (ai (aO (Eff.box O Z Z Z Z Z Z Z Z)) Z) (ai (ai (bM O [500,501,502,503,504,505,506,15] [501,502,504,505,506,15] (bin := [iB c g 1 2 3, ax g.paths, ay g.conds, aL c.num, aE w.vars, aE w.facts, ba w.ev, rG (Tr.d y) (.int .i64 0) (fD r)]) Z Z Z Z (oN ih) Z Z Z Z Z (B0 := 17000) Z Z Z Z Z Z Z) Z) trivial)))))))))))) ?_)
 show _ ∧ _
 apply gm
 repeat' (first | apply HN.cons Z | exact HN.nil Z | exact BN.row Z | exact BN.map Z | apply BN.box Z | apply MN.cons Z | exact MN.nil Z | exact XN.d Z | exact XN.rs Z | exact c5)
 refine ⟨.inr Z, _, (af 17010 510 Z Z).trans (af 17011 511 Z Z), _, Z, Z, Z⟩
set_option maxHeartbeats 8000000
theorem uu : (Tryz.prog).underlying 69 = some (.map 2 2) := by kernel_rfl
theorem uK : (Tryz.prog).underlying 2 = some (.int .i64) := by kernel_rfl
theorem zK : ((Tryz.prog).info? 2).bind (·.zero) = some (D.val (.int .i64 0)) := by kernel_rfl
abbrev br (E : Pe) (SS : List (List Tm)) (bd lo be : D) (nm : List (Int × D)) : Pc := ⟨bX E.post, .slc 1 (SS.map fun f => [bX f]), bd, lo, be, nm⟩
structure PcOk (E : Pe) (b : List Sm) (SS : List (List Tm)) (nm : List (Int × D)) : Prop where
  starts : ∀ k, k < b.length → (b.getD k default).kind = 8 → aS b k + 1 < SS.length ∧ SS.getD (aS b k + 1) default = (b.getD k default).facts
  num : ∀ k : Nat, k < b.length → (b.getD k default).kind = 8 → gW nm (k : Nat) = some (.int .i64 (aS b k : Nat))
structure FX where
  n : Nat
  r : List Fr
  w : Pw
  g : Gs
  c : Nat
structure FI (E : Pe) (b : List Sm) (frm : Int) (N L : Nat) (G : Gs) (x : FX) : Prop where
  pl : ∃ fl i, Pl b fl i x.r
  lt : aD x.r < x.n
  le : x.n ≤ N
  w : WOk x.n x.w
  g : GOk x.c x.g
  bd : x.c + kZ (aD x.r) ≤ L
  eq : dz bH E frm x.n x.r x.w x.g = G
def sd (w : Pw) : Tm := if w.sym = 10 then ⟨0, []⟩ else jb w.sym
abbrev vN (w : Pw) : Pw := ⟨w.vars, w.facts, w.ev, min (w.sym + 1) 10⟩
abbrev rE (w : Pw) (g : Gs) : Gs := g.flag (decide (w.sym = 10))
theorem tC {L : Nat} (h1 : 4096 ≤ L) (h2 : L ≤ 1073741824) {c : Pc} {g : Gs} {frm : Int} {w : Pw} (hs : w.sym ≤ 10) : MC Tryz.prog L 108 [.c (.pt 0 0 0), .c (.pt 4 0 0)] (iH c g frm w) (aZ (cZ (sd w)) (iH c (rE w g) frm (vN w))) := by
 by_cases h : w.sym = 10
 have e : vN w = w := by obtain ⟨a, b, c, d⟩ := w; simp only at h; subst h; rfl
 rw [sd, if_pos h, e, rE, decide_eq_true h, gT]
 exact rt (fun h => RA.zero h) (tD h1 h2 h)
 have e : min (w.sym + 1) 10 = w.sym + 1 := by omega
 rw [sd, if_neg h, vN, e, rE, decide_eq_false h, eT]
 exact vB h1 h2 (by omega)
theorem tl {la : ct} {s : Sm} {w : Pw} {g : Gs} (h : s.kind = 2) : bC la s w g = (w.set s.var.toNat (aG s.sum w.vars).1, aR w s.sum g) := if_pos h
theorem tk {la : ct} {s : Sm} {w : Pw} {g : Gs} (h : s.kind = 3) (hs : w.sym ≤ 10) : bC la s w g = (⟨w.vars.set s.var.toNat (sd w), w.facts, w.ev, min (w.sym + 1) 10⟩, rE w (bU la w s.index g)) := by
 rw [bC, if_neg (by omega), if_pos h]
 by_cases h0 : w.sym = 10
 rw [if_pos h0, sd, if_pos h0, rE, decide_eq_true h0]
 obtain ⟨a, b, c, d⟩ := w; simp only at h0; subst h0; rfl
 rw [if_neg h0, sd, if_neg h0, rE, decide_eq_false h0, eT, l3, show min (w.sym + 1) 10 = w.sym + 1 by omega]
theorem tj {la : ct} {s : Sm} {w : Pw} {g : Gs} (h : s.kind = 4) : bC la s w g = (w, bU la w s.index g) := by
 rw [bC, if_neg (by omega), if_neg (by omega), if_pos h]
theorem th {la : ct} {s : Sm} {w : Pw} {g : Gs} (h : s.kind = 5) : bC la s w g = (⟨w.vars, w.facts, w.ev ++ [s.event], w.sym⟩, g) := by
 rw [bC, if_neg (by omega), if_neg (by omega), if_neg (by omega), if_pos h]
theorem tg {la : ct} {s : Sm} {w : Pw} {g : Gs} (h : s.kind = 6) : bC la s w g = (w.fact (aG s.sum w.vars).1, (cR w (aG s.sum w.vars).1 (aR w s.sum g)).flag (w.fact (aG s.sum w.vars).1).long) := by
 rw [bC, if_neg (by omega), if_neg (by omega), if_neg (by omega), if_neg (by omega), if_pos h, cR, dq, show (!true) = false from Z, eT]
theorem tm {la : ct} {s : Sm} {w : Pw} {g : Gs} (h2 : ¬ s.kind = 2) (h3 : ¬ s.kind = 3) (h4 : ¬ s.kind = 4) (h5 : ¬ s.kind = 5) (h6 : ¬ s.kind = 6) : bC la s w g = (w, g) := by
 rw [bC, if_neg h2, if_neg h3, if_neg h4, if_neg h5, if_neg h6]
theorem tG {L : Nat} (h1 : 4096 ≤ L) (h2 : L ≤ 1073741824) {E : Pe} {b : List Sm} {SS : List (List Tm)} {bd lo be : D} {nm : List (Int × D)} {frm : Int} {w0 : Pw} {g0 G : Gs} {r0 : List Fr} {N c0 : Nat} (hE : EOk E b) (hbl : b.length ≤ 1000) (hP : PcOk E b SS nm)
  (ih : ∀ n, n < N → ∀ {r : List Fr} {w : Pw} {g : Gs} {c : Nat}, (∃ fl i, Pl b fl i r) → aD r < n → WOk n w → GOk c g → c + kZ (aD r) ≤ L → j8 L (br E SS bd lo be nm) frm w g (fD r) (dz bH E frm n r w g))
  (hi0 : FI E b frm N L G ⟨N, r0, w0, g0, c0⟩) : j8 L (br E SS bd lo be nm) frm w0 g0 (fD r0) G := by
 refine aF 500 Z (MC.keep [500,503,510,511] (bs := [iB (br E SS bd lo be nm) G 510 511 503, aL nm, ax G.paths, ay G.conds]) Z Z (jH 218 [500,501,502,503,504,505,506] h1 h2 Tryz.func85 Z Z Z Z fun O hF => ?_))
 refine bZ ?_
 refine ag (jx O Z Z Z Z Z Z Z Z (aq ?_))
 refine jf [3,1,2] Z (jx O Z Z Z Z Z Z Z Z (aq ?_))
 refine jn (AWP.block (az (X := FX) (fun x => ⟨[(2, .c (.d (fD x.r))), (3, .c (.pt 3 0 0)), (4, .c (.pt 4 0 0))], [(3, pB 500), (4, iW frm x.w 904 905 906), (500, iB (br E SS bd lo be nm) x.g 901 902 503), (503, aL nm), (901, ax x.g.paths), (902, ay x.g.conds), (904, aE x.w.vars), (905, aE x.w.facts), (906, ba x.w.ev)]⟩) (fun x => FI E b frm N L G x) (fun x => x.n) ⟨N, r0, w0, g0, c0⟩ (((((((aT [3,4,500,503,501,502,504,505,506] (e' := [(2, _), (3, _), (4, _)]) Z Z ⟨Z, Z, Z, trivial⟩ Z).trans (af 501 901 Z Z)).trans (af 502 902 Z Z)).trans (af 504 904 Z Z)).trans (af 505 905 Z Z)).trans (af 506 906 Z Z)).trans (Ent.to ⟨Z, Z, Z, trivial⟩ Z)) ?_ (fun x hi => ?_)))
 exact hi0
 obtain ⟨n, r, w, g, cc⟩ := x
 obtain ⟨⟨fl, i0, hp⟩, hlt, hle, hw, hg, hbd, hG⟩ := hi
 dsimp only at hp hlt hle hw hg hbd hG
 refine mv (Ent.to (e' := [(2, .c (.d (fD r))), (3, .c (.pt 3 0 0)), (4, .c (.pt 4 0 0))]) (H' := [(3, pB 500), (4, iW frm w 904 905 906), (500, iB (br E SS bd lo be nm) g 901 902 503), (503, aL nm), (901, ax g.paths), (902, ay g.conds), (904, aE w.vars), (905, aE w.facts), (906, ba w.ev)]) ⟨Z, Z, Z, trivial⟩ Z) ?_
 obtain ⟨n, rfl⟩ : ∃ m, n = m + 1 := ⟨n - 1, by omega⟩
 have hge := nP (m := aD r)
 have hgc := hg.conds
 have hgp := hg.paths
 have hva := md hw.ctx hw.vars
 have hv4 := hw.vars
 have hfa := hw.facts
 have hev := hw.ev
 have hsy := hw.sym
 refine AWP.seq (ag (j4 O Z Z Z Z (j2 O Z Z (jf [15,2,3,4] Z (jn (AWP.cond O Z Z (fun hc15 => ?_) (fun hc15 => ?_)))))))
 refine AWP.skip ?_
 cases hp with
 | nil =>
  have hb : g.bad = false := by simpa using hc15
  refine AWP.block (AWP.seq (ag (j2 O Z Z (jn (AWP.cond O Z Z (fun hc17 => ?_) (fun hc17 => ?_))))))
  refine AWP.seq (jE O [_,_,_,_,_,_,_,_,_] [pn [] 0 0, pn [0] 0 0, pn [0,1] 0 0, pn [] 0 0, pn [3] 0 0, pn [3,4] 0 0, pn [3,4,5] 0 0, pn [3,4,5,6] 0 0, pe [0,1,2,3,4,5,6,7] 0] [8] [_,_] [[901,902]] (ka O Z Z (ka O Z Z (ka O Z Z (ka O Z Z (ka O Z Z (ka O Z Z (ka O Z Z (ka O Z Z (ai (ai (bM O [500,901,902,503,4,904,905,906] [901,902] (bin := [iB (br E SS bd lo be nm) g 1 2 3, ax g.paths, ay g.conds, aL nm, iW frm w 5 6 7, aE w.vars, aE w.facts, ba w.ev]) Z Z Z Z (qs (c := (br E SS bd lo be nm)) (g := g) (frm := frm) (w := w) (to := -1) (fs := E.post) h1 h2 hw.ctx hw.vars hE.post.1 (by have := hE.post.2; omega) (by omega)) Z Z Z Z Z (B0 := 27000) Z Z Z Z Z Z Z) Z) trivial))))))))) ?_)
  refine jw [17,16,15,2,3,4] Z (bZ ?_)
  refine AWP.ret ?_
  rw [← hG, eo hb]
  refine ⟨.inl Z, _, (af 27009 510 Z Z).trans (af 27008 511 Z Z), _, Z, Z, Z⟩
  cases hc17
 | @lp i k r hi hs hk h8 =>
  have hb : g.bad = false := by simpa using hc15
  obtain ⟨hs1, hs2⟩ := hP.starts _ hk h8
  have hf := eh (hE.st _ hk)
  have hlf := hE.lf _ hk h8
  have hnk := cS (b := b) (k := k)
  refine AWP.block (AWP.seq (ag (j2 O Z Z (jn (AWP.cond O Z Z (fun hc17 => ?_) (fun hc17 => ?_))))))
  cases hc17
  refine AWP.skip (AWP.seq (ag (j4 O Z Z Z Z (js O Z (jf [31,17,16,15,2,3,4] Z (jn (AWP.cond O Z Z (fun hc31 => ?_) (fun hc31 => ?_))))))))
  refine AWP.seq (jE O [_,_,_,_,_,_,_,_,_,_,_,_,_,_,_,_,_,_,_,_] [pn [] 0 0, pn [0] 0 0, pn [0,1] 0 0, pn [] 0 0, pn [3] 0 0, pn [3,4] 0 0, pn [3,4,5] 0 0, pn [] 0 0, pn [7] 0 0, pn [7,8] 0 0, pn [7,8,9] 0 0, pn [7,8,9,10] 0 0, pn [] 0 0, pn [12] 0 0, pn [12,13] 0 0, pn [12,13,14] 0 0, pn [12,13,14,15] 0 0, pn [7,8,9,10,11,12,13,14,15,16] 0 0, pn [7,8,9,10,11,12,13,14,15,16,17] 0 0, pe [0,1,2,3,4,5,6,7,8,9,10,11,12,13,14,15,16,17,18] 0] [19] [_,_] [[901,902]] (ka O Z Z (ka O Z Z (ka O Z Z (ka O Z Z (ka O Z Z (ka O Z Z (ka O Z Z (ka O Z Z (ka O Z Z (ka O Z Z (ka O Z Z (ka O Z Z (ka O Z Z (ka O Z Z (ka O Z Z (ka O Z Z (ai (ai ((bc O Z Z (by first | omega | (simp at *; omega)) (by first | omega | (simp at *; omega))).cast (v' := eI ((aS b k + 1 : Nat) : Int)) (congrArg eI (by omega))) Z) (ai (ai ((aB O Z Z Z Z Z Z Z Z (cq hs1)).cast (v' := ptr [bX (b.getD k default).facts]) (by rw [hs2])) Z) (ka O Z Z (ai (ai (bM O [500,901,902,503,4,904,905,906] [901,902] (bin := [iB (br E SS bd lo be nm) g 1 2 3, ax g.paths, ay g.conds, aL nm, iW frm w 5 6 7, aE w.vars, aE w.facts, ba w.ev]) Z Z Z Z (qs (c := (br E SS bd lo be nm)) (g := g) (frm := frm) (w := w) (to := (aS b k : Nat)) (fs := (b.getD k default).facts) h1 h2 hw.ctx hw.vars hf.1 (by have := hf.2; omega) (by omega)) Z Z Z Z Z (B0 := 52000) Z Z Z Z Z Z Z) Z) trivial)))))))))))))))))))) ?_)
  refine jw [31,17,16,15,2,3,4] Z (bZ ?_)
  refine AWP.ret ?_
  rw [← hG, fK hb, hlf]
  refine ⟨.inl Z, _, (af 52009 510 Z Z).trans (af 52008 511 Z Z), _, Z, Z, Z⟩
  cases hc31
 | @leaf i k r hi hs hk h0 h =>
  have hb : g.bad = false := by simpa using hc15
  have hst := hE.st _ hk
  have htm := gE hst
  have hne := fg h0
  generalize hs0 : b.getD k default = s at hst htm hG hlt hbd hge hne ⊢
  have hbl2 := kC (m := aD r)
  simp only [aD, Fr.nodes, Tr.nodes, Trs.nodes, Nat.add_zero, Nat.add_comm 1] at hlt hbd hge
  rw [dD hb] at hG
  refine AWP.block (AWP.seq (ag (j2 O Z Z (jn (AWP.cond O Z Z (fun hc17 => ?_) (fun hc17 => ?_))))))
  cases hc17
  refine AWP.skip (AWP.seq (ag (j4 O Z Z Z Z (js O Z (jf [31,17,16,15,2,3,4] Z (jn (AWP.cond O Z Z (fun hc31 => ?_) (fun hc31 => ?_))))))))
  cases hc31
  refine AWP.skip (AWP.seq (oG O [_,_,_,_,_,_,_,_,_,_,_,_] [pn [] 0 1, pn [0] 0 1, pn [0,1] 0 1, pn [0,1,2] 0 1, pn [] 0 2, pn [4] 0 2, pn [4,5] 0 2, pn [4,5,6] 0 2, pn [] 0 1, pe [] 0, pe [0,1,2,3,8,9] 1, pe [0,1,2,3,4,5,6,7,8,9,10] 2] [9,10,11] 8 6 (.box [.d .nilp]) [_,_] [_,_] [] (ai (kf O Z Z Z (kg O Z Z Z)) (ai (kf O Z Z Z (kg O Z Z Z)) (ai (kf O Z Z Z (kg O Z Z Z)) (ai (kf O Z Z Z (kg O Z Z Z)) (ai (kf O Z Z Z (kf O Z Z Z (kg O Z Z Z))) (ai (kf O Z Z Z (kf O Z Z Z (kg O Z Z Z))) (ai (kf O Z Z Z (kf O Z Z Z (kg O Z Z Z))) (ai (kf O Z Z Z (kf O Z Z Z (kg O Z Z Z))) (ai (ai (ai (aO (Eff.alloc O Z Z Z Z Z Z)) Z) (ai (aO (Eff.alloc O Z Z Z Z Z Z)) Z)) (ai (ai (aJ (aO (Eff.alloc O Z Z Z Z Z Z)) (aO (Eff.alloc O Z Z Z Z Z Z))) Z) (ai (ai (aJ trivial (aO (aC O Z Z Z Z Z Z Z Z Z Z Z Z Z))) Z) (ai (ai (aJ trivial (aO (aC O Z Z Z Z Z Z Z Z Z Z Z Z Z))) Z) trivial)))))))))))) ?_))
  refine jw [7,6,31,17,16,15,2,3,4] Z (bZ ?_)
  refine AWP.seq (ag (j4 O Z Z Z Z (js O Z (jf [64,7,6,31,17,16,15,2,3,4] Z (jn ?_)))))
  obtain ⟨d, ed⟩ : ∃ d, d = bC bH s w g := ⟨_, rfl⟩
  refine pk ⟨[(3, .c (.pt 3 0 0)), (4, .c (.pt 4 0 0)), (7, .c (.pt 7 0 0))], [(3, pB 500), (7, xB (fD r)), (4, iW frm d.1 904 905 906), (500, iB (br E SS bd lo be nm) d.2 901 902 503), (503, aL nm), (901, ax d.2.paths), (902, ay d.2.conds), (904, aE d.1.vars), (905, aE d.1.facts), (906, ba d.1.ev)]⟩ ?_ ?_
  refine AWP.block (ag (j2 O Z Z (jn (AWP.cond O Z Z (fun hc65 => ?_) (fun hc65 => ?_)))))
  exact absurd (of_decide_eq_true hc65) (by omega)
  refine ag (j2 O Z Z (jn (AWP.cond O Z Z (fun hc84 => ?_) (fun hc84 => ?_))))
  have hsv2 := nF hst (.inl (of_decide_eq_true hc84))
  refine f6 O [_,_,_,_,_,_,_,_,_,_,_,_,_,_,_,_,_,_] [pn [] 0 1, pn [0] 0 1, pn [] 0 1, pn [2] 0 1, pn [2,3] 0 1, pn [2,3,4] 0 1, pn [2,3,4,5] 0 1, pn [] 0 0, pn [7] 0 0, pn [7,8] 0 0, pn [] 0 0, pn [10] 0 0, pn [10,11] 0 0, pn [10,11,12] 0 0, pn [10,11,12,13] 0 0, pe [7,8,9,10,11,12,13,14] 0, pn [0,1,2,3,4,5,6,7,8,9,10,11,12,13,14,15] 1 1, pe [0,1,2,3,4,5,6,7,8,9,10,11,12,13,14,15,16] 1] [15,17] [_, [(3, pB 500), (6, xB (Tr.d (.node s (k : Nat) []))), (7, xB (fD r)), (500, iB (br E SS bd lo be nm) (aR w s.sum g) 901 902 503), (901, ax (aR w s.sum g).paths), (902, ay (aR w s.sum g).conds), (503, aL nm), (4, iW frm w 904 905 906), (904, aE w.vars), (905, aE w.facts), (906, ba w.ev)], _] (ai (kc O Z (V O Z)) (ai (kc O Z (V O Z)) (ai (kc O Z (V O Z)) (ai (kc O Z (V O Z)) (ai (kc O Z (V O Z)) (ai (kc O Z (V O Z)) (ai (kc O Z (V O Z)) (kc O Z (kc O Z (kc O Z (kc O Z (kc O Z (kc O Z (kc O Z (kc O Z (ai (b0 O [500,901,902,503,4,904,905,906] (bin := [iB (br E SS bd lo be nm) g 1 2 3, ax g.paths, ay g.conds, aL nm, iW frm w 5 6 7, aE w.vars, aE w.facts, ba w.ev]) Z Z Z Z (jI (c := (br E SS bd lo be nm)) (frm := frm) (w := w) (g := g) (t := s.sum) h1 h2 htm.1.1 hva (by have := htm.1.2; omega)) Z Z Z Z Z (B0 := 102000) Z Z Z Z Z Z) (ai (cL O Z Z (by first | omega | (simp at *; omega))) (ai (dc (ex := Tm.cells (w.vars.getD s.var.toNat default)) (xs' := (w.vars.set s.var.toNat (aG s.sum w.vars).1).map Tm.cells) O Z Z Z Z Z Z Z Z Z Z Z Z Z Z Z (uq (by omega) (by omega)) (ui (v := (aG s.sum w.vars).1) (by omega) Z) Z) trivial)))))))))))))))))) ?_
  rw [ed, tl (of_decide_eq_true hc84)]
  apply fv
  repeat' (first | apply HN.cons Z | exact HN.nil Z | exact BN.row Z | exact BN.map Z | apply BN.box Z | apply MN.cons Z | exact MN.nil Z | exact XN.d Z | exact XN.rs Z | exact c5)
  exact ⟨Z, (aT [3,7,4,500,503,901,902,904,905,906] (e' := [(3, _), (4, _), (7, _)]) Z Z ⟨Z, Z, Z, trivial⟩ Z).trans (Ent.to ⟨Z, Z, Z, trivial⟩ (by simp only [Pw.set, iW, List.length_set]; rfl))⟩
  refine ag (j2 O Z Z (jn (AWP.cond O Z Z (fun hc103 => ?_) (fun hc103 => ?_))))
  refine AWP.seq (jE O [_,_,_,_,_,_,_,_,_,_,_,_,_] [pn [] 0 1, pn [0] 0 1, pn [0,1] 0 1, pn [] 0 0, pn [3] 0 0, pn [3,4] 0 0, pn [] 0 0, pn [6] 0 0, pn [6,7] 0 0, pn [6,7,8] 0 0, pn [6,7,8,9] 0 0, pe [3,4,5,6,7,8,9,10] 0, pe [0,1,2,3,4,5,6,7,8,9,10,11] 1] [11,12] [_, [(3, pB 500), (6, xB (Tr.d (.node s (k : Nat) []))), (7, xB (fD r)), (500, iB (br E SS bd lo be nm) (aR w s.index g) 901 902 503), (901, ax (aR w s.index g).paths), (902, ay (aR w s.index g).conds), (503, aL nm), (4, iW frm w 904 905 906), (904, aE w.vars), (905, aE w.facts), (906, ba w.ev)], [(3, pB 500), (6, xB (Tr.d (.node s (k : Nat) []))), (7, xB (fD r)), (500, iB (br E SS bd lo be nm) (bU bH w s.index g) 901 118008 503), (901, ax (bU bH w s.index g).paths), (503, aL nm), (4, iW frm w 904 905 906), (904, aE w.vars), (905, aE w.facts), (906, ba w.ev), (118008, ay (bU bH w s.index g).conds)]] [[], [902]] (ai (ka O Z Z (kw O Z Z)) (ai (ka O Z Z (kw O Z Z)) (ai (ka O Z Z (kw O Z Z)) (ka O Z Z (ka O Z Z (ka O Z Z (ka O Z Z (ka O Z Z (ka O Z Z (ka O Z Z (ka O Z Z (ai (ai (aO (b0 O [500,901,902,503,4,904,905,906] (bin := [iB (br E SS bd lo be nm) g 1 2 3, ax g.paths, ay g.conds, aL nm, iW frm w 5 6 7, aE w.vars, aE w.facts, ba w.ev]) Z Z Z Z (jI (c := (br E SS bd lo be nm)) (frm := frm) (w := w) (g := g) (t := s.index) h1 h2 htm.2.1 hva (by have := htm.2.2; omega)) Z Z Z Z Z (B0 := 117000) Z Z Z Z Z Z)) Z) (ai (ai (bM O [500,901,902,503,4,904,905,906] [902] (bin := [iB (br E SS bd lo be nm) (aR w s.index g) 1 2 3, ax (aR w s.index g).paths, ay (aR w s.index g).conds, aL nm, iW frm w 5 6 7, aE w.vars, aE w.facts, ba w.ev]) Z Z Z Z (sD (c := (br E SS bd lo be nm)) (frm := frm) (w := w) (g := (aR w s.index g)) (t := (aG s.index w.vars).1) h1 h2 dq (show g.conds.length + 2 ≤ L by omega)) Z Z Z Z Z (B0 := 118000) Z Z Z Z Z Z Z) Z) trivial))))))))))))) ?_)
  refine jw [103,104,84,85,65,66,64,7,6,31,17,16,15,2,3,4] Z (bZ ?_)
  have hsv2 := nF hst (.inr (of_decide_eq_true hc103))
  refine f6 O [_,_,_,_,_,_,_,_,_,_,_,_,_] [pn [] 0 1, pn [0] 0 1, pn [] 0 1, pn [2] 0 1, pn [2,3] 0 1, pn [2,3,4] 0 1, pn [2,3,4,5] 0 1, pn [] 0 0, pn [7] 0 0, pn [7,8] 0 0, pe [7,8,9] 0, pn [0,1,2,3,4,5,6,7,8,9,10] 1 1, pe [0,1,2,3,4,5,6,7,8,9,10,11] 1] [10,12] [_, [(3, pB 500), (6, xB (Tr.d (.node s (k : Nat) []))), (7, xB (fD r)), (500, iB (br E SS bd lo be nm) (rE w (bU bH w s.index g)) 901 118008 503), (901, ax (rE w (bU bH w s.index g)).paths), (118008, ay (rE w (bU bH w s.index g)).conds), (503, aL nm), (4, iW frm (vN w) 904 905 906), (904, aE w.vars), (905, aE w.facts), (906, ba w.ev)], _] (ai (kc O Z (V O Z)) (ai (kc O Z (V O Z)) (ai (kc O Z (V O Z)) (ai (kc O Z (V O Z)) (ai (kc O Z (V O Z)) (ai (kc O Z (V O Z)) (ai (kc O Z (V O Z)) (kc O Z (kc O Z (kc O Z (ai (b0 O [500,901,118008,503,4,904,905,906] (bin := [iB (br E SS bd lo be nm) (bU bH w s.index g) 1 2 3, ax (bU bH w s.index g).paths, ay (bU bH w s.index g).conds, aL nm, iW frm w 5 6 7, aE w.vars, aE w.facts, ba w.ev]) Z Z Z Z (tC (c := (br E SS bd lo be nm)) (frm := frm) (w := w) (g := (bU bH w s.index g)) h1 h2 hsy) Z Z Z Z Z (B0 := 129000) Z Z Z Z Z Z) (ai (cL O Z Z (by first | omega | (simp at *; omega))) (ai (dc (ex := Tm.cells (w.vars.getD s.var.toNat default)) (xs' := (w.vars.set s.var.toNat (sd w)).map Tm.cells) O Z Z Z Z Z Z Z Z Z Z Z Z Z Z Z (uq (by omega) (by omega)) (ui (v := (sd w)) (by omega) Z) Z) trivial))))))))))))) ?_
  rw [ed, tk (of_decide_eq_true hc103) hw.sym]
  apply fv
  repeat' (first | apply HN.cons Z | exact HN.nil Z | exact BN.row Z | exact BN.map Z | apply BN.box Z | apply MN.cons Z | exact MN.nil Z | exact XN.d Z | exact XN.rs Z | exact c5)
  exact ⟨Z, ((aT [3,7,4,500,503,901,118008,904,905,906] (e' := [(3, _), (4, _), (7, _)]) Z Z ⟨Z, Z, Z, trivial⟩ Z).trans (af 118008 902 Z Z)).trans (Ent.to ⟨Z, Z, Z, trivial⟩ (by simp only [Pw.set, iW, List.length_set]; rfl))⟩
  refine ag (j2 O Z Z (jn (AWP.cond O Z Z (fun hc130 => ?_) (fun hc130 => ?_))))
  refine jE O [_,_,_,_,_,_,_,_,_,_,_,_,_] [pn [] 0 1, pn [0] 0 1, pn [0,1] 0 1, pn [] 0 0, pn [3] 0 0, pn [3,4] 0 0, pn [] 0 0, pn [6] 0 0, pn [6,7] 0 0, pn [6,7,8] 0 0, pn [6,7,8,9] 0 0, pe [3,4,5,6,7,8,9,10] 0, pe [0,1,2,3,4,5,6,7,8,9,10,11] 1] [11,12] [_, [(3, pB 500), (6, xB (Tr.d (.node s (k : Nat) []))), (7, xB (fD r)), (500, iB (br E SS bd lo be nm) (aR w s.index g) 901 902 503), (901, ax (aR w s.index g).paths), (902, ay (aR w s.index g).conds), (503, aL nm), (4, iW frm w 904 905 906), (904, aE w.vars), (905, aE w.facts), (906, ba w.ev)], [(3, pB 500), (6, xB (Tr.d (.node s (k : Nat) []))), (7, xB (fD r)), (500, iB (br E SS bd lo be nm) (bU bH w s.index g) 901 145008 503), (901, ax (bU bH w s.index g).paths), (503, aL nm), (4, iW frm w 904 905 906), (904, aE w.vars), (905, aE w.facts), (906, ba w.ev), (145008, ay (bU bH w s.index g).conds)]] [[], [902]] (ai (ka O Z Z (kw O Z Z)) (ai (ka O Z Z (kw O Z Z)) (ai (ka O Z Z (kw O Z Z)) (ka O Z Z (ka O Z Z (ka O Z Z (ka O Z Z (ka O Z Z (ka O Z Z (ka O Z Z (ka O Z Z (ai (ai (aO (b0 O [500,901,902,503,4,904,905,906] (bin := [iB (br E SS bd lo be nm) g 1 2 3, ax g.paths, ay g.conds, aL nm, iW frm w 5 6 7, aE w.vars, aE w.facts, ba w.ev]) Z Z Z Z (jI (c := (br E SS bd lo be nm)) (frm := frm) (w := w) (g := g) (t := s.index) h1 h2 htm.2.1 hva (by have := htm.2.2; omega)) Z Z Z Z Z (B0 := 144000) Z Z Z Z Z Z)) Z) (ai (ai (bM O [500,901,902,503,4,904,905,906] [902] (bin := [iB (br E SS bd lo be nm) (aR w s.index g) 1 2 3, ax (aR w s.index g).paths, ay (aR w s.index g).conds, aL nm, iW frm w 5 6 7, aE w.vars, aE w.facts, ba w.ev]) Z Z Z Z (sD (c := (br E SS bd lo be nm)) (frm := frm) (w := w) (g := (aR w s.index g)) (t := (aG s.index w.vars).1) h1 h2 dq (show g.conds.length + 2 ≤ L by omega)) Z Z Z Z Z (B0 := 145000) Z Z Z Z Z Z Z) Z) trivial))))))))))))) ?_
  rw [ed, tj (of_decide_eq_true hc130)]
  apply fv
  repeat' (first | apply HN.cons Z | exact HN.nil Z | exact BN.row Z | exact BN.map Z | apply BN.box Z | apply MN.cons Z | exact MN.nil Z | exact XN.d Z | exact XN.rs Z | exact c5)
  exact ⟨Z, ((aT [3,7,4,500,503,901,145008,904,905,906] (e' := [(3, _), (4, _), (7, _)]) Z Z ⟨Z, Z, Z, trivial⟩ Z).trans (af 145008 902 Z Z)).trans (Ent.to ⟨Z, Z, Z, trivial⟩ Z)⟩
  refine ag (j2 O Z Z (jn (AWP.cond O Z Z (fun hc145 => ?_) (fun hc145 => ?_))))
  refine jE O [_,_,_,_,_,_,_,_,_,_,_] [pn [] 0 1, pn [0] 0 1, pn [] 0 0, pn [2] 0 0, pn [2,3] 0 0, pn [2,3,4] 0 0, pn [2,3,4,5] 0 0, pe [2,3,4,5,6] 0, pe [0,1,2,3,4,5,6,7] 1, pn [0,1,2,3,4,5,6,7,8] 2 2, pe [0,1,2,3,4,5,6,7,8,9] 2] [7,8,10] [_,_,_,_] [[], [906], []] (ai (ka O Z Z (kw O Z Z)) (ai (ka O Z Z (kw O Z Z)) (ka O Z Z (ka O Z Z (ka O Z Z (ka O Z Z (ka O Z Z (ai (ai (aO (dn O Z Z Z Z Z Z Z Z Z Z Z Z Z Z)) Z) (ai (ai (cF (own := true) (xs := w.ev.map (fun n => [D.int .i64 n])) (ys := [[.int .i64 s.event]]) (zs := (w.ev ++ [s.event]).map (fun n => [D.int .i64 n])) (n := (w.ev ++ [s.event]).length) O Z Z Z Z Z Z Z Z Z Z Z Z Z Z Z Z (.row Z (List.length_map _).symm) (.whole Z Z (.inl (by simp [Scal, D.scalar]))) (by simp) Z (by simp; omega) (by simp; omega) (by simp) (by simp) Z) Z) (ka O Z Z (ai (ai (aO (aC O Z Z Z Z Z Z Z Z Z Z Z Z Z)) Z) trivial))))))))))) ?_
  rw [ed, th (of_decide_eq_true hc145)]
  apply fv
  repeat' (first | apply HN.cons Z | exact HN.nil Z | exact BN.row Z | exact BN.map Z | apply BN.box Z | apply MN.cons Z | exact MN.nil Z | exact XN.d Z | exact XN.rs Z | exact c5)
  exact ⟨Z, ((aT [3,7,4,500,503,901,902,904,905,155] (e' := [(3, _), (4, _), (7, _)]) Z Z ⟨Z, Z, Z, trivial⟩ Z).trans (af 155 906 Z Z)).trans (Ent.to ⟨Z, Z, Z, trivial⟩ Z)⟩
  refine ag (j2 O Z Z (jn (AWP.cond O Z Z (fun hc157 => ?_) (fun hc157 => ?_))))
  refine AWP.seq (oG O [_,_,_,_,_,_,_,_,_,_,_] [pn [] 0 0, pn [0] 0 0, pn [0,1] 0 0, pn [] 0 0, pn [3] 0 0, pn [3,4] 0 0, pn [3,4,5] 0 0, pn [3,4,5,6] 0 0, pe [0,1,2,3,4,5,6,7] 0, pn [] 0 1, pe [0,1,2,3,4,5,6,7,8,9] 1] [8,10] 9 8 (.box [.d (.int .i64 0), .d .nils]) [_, [(3, pB 500), (6, xB (Tr.d (.node s (k : Nat) []))), (7, xB (fD r)), (500, iB (br E SS bd lo be nm) (aR w s.sum g) 901 902 503), (901, ax (aR w s.sum g).paths), (902, ay (aR w s.sum g).conds), (503, aL nm), (4, iW frm w 904 905 906), (904, aE w.vars), (905, aE w.facts), (906, ba w.ev)]] [_] [] (kf O Z Z Z (kf O Z Z Z (kf O Z Z Z (kf O Z Z Z (kf O Z Z Z (kf O Z Z Z (kf O Z Z Z (kf O Z Z Z (ai (ai (aJ (aO (b0 O [500,901,902,503,4,904,905,906] (bin := [iB (br E SS bd lo be nm) g 1 2 3, ax g.paths, ay g.conds, aL nm, iW frm w 5 6 7, aE w.vars, aE w.facts, ba w.ev]) Z Z Z Z (jI (c := (br E SS bd lo be nm)) (frm := frm) (w := w) (g := g) (t := s.sum) h1 h2 htm.1.1 hva (by have := htm.1.2; omega)) Z Z Z Z Z (B0 := 168000) Z Z Z Z Z Z)) (aO (b0 O [500,901,902,503,4,904,905,906] (bin := [iB (br E SS bd lo be nm) g 1 2 3, ax g.paths, ay g.conds, aL nm, iW frm w 5 6 7, aE w.vars, aE w.facts, ba w.ev]) Z Z Z Z (jI (c := (br E SS bd lo be nm)) (frm := frm) (w := w) (g := g) (t := s.sum) h1 h2 htm.1.1 hva (by have := htm.1.2; omega)) Z Z Z Z Z (B0 := 168000) Z Z Z Z Z Z))) Z) (ai (ai (ai (aO (Eff.alloc O Z Z Z Z Z Z)) Z) (ai (aO (Eff.alloc O Z Z Z Z Z Z)) Z)) (ai (ai (aJ trivial (aO (aC O Z Z Z Z Z Z Z Z Z Z Z Z Z))) Z) trivial))))))))))) ?_)
  refine jw [8,157,158,145,146,130,131,103,104,84,85,65,66,64,7,6,31,17,16,15,2,3,4] Z (bZ ?_)
  refine AWP.seq (jE O [_,_,_,_,_] [pn [] 0 0, pn [0] 0 0, pn [0,1] 0 0, pn [] 0 0, pe [0,1,2,3] 0] [4] [_,_] [[902]] (ka O Z Z (ka O Z Z (ka O Z Z (ka O Z Z (ai (ai (bM O [500,901,902,503,4,904,905,906] [902] (bin := [iB (br E SS bd lo be nm) (aR w s.sum g) 1 2 3, ax (aR w s.sum g).paths, ay (aR w s.sum g).conds, aL nm, iW frm w 5 6 7, aE w.vars, aE w.facts, ba w.ev]) Z Z Z Z (oS (c := (br E SS bd lo be nm)) (frm := frm) (w := w) (g := (aR w s.sum g)) (t := (aG s.sum w.vars).1) h1 h2 (show g.conds.length + 1 ≤ L by omega)) Z Z Z Z Z (B0 := 173000) Z Z Z Z Z Z Z) Z) trivial))))) ?_)
  refine jw [8,157,158,145,146,130,131,103,104,84,85,65,66,64,7,6,31,17,16,15,2,3,4] Z (bZ ?_)
  refine jE O [_,_,_,_,_] [pn [] 0 0, pn [0] 0 0, pn [0,1] 0 0, pn [] 0 0, pe [0,1,2,3] 0] [4] [_,_] [[905]] (ka O Z Z (ka O Z Z (ka O Z Z (ka O Z Z (ai (ai (bM O [500,901,173008,503,4,904,905,906] [905] (bin := [iB (br E SS bd lo be nm) (cR w (aG s.sum w.vars).1 (aR w s.sum g)) 1 2 3, ax (cR w (aG s.sum w.vars).1 (aR w s.sum g)).paths, ay (cR w (aG s.sum w.vars).1 (aR w s.sum g)).conds, aL nm, iW frm w 5 6 7, aE w.vars, aE w.facts, ba w.ev]) Z Z Z Z (oR (c := (br E SS bd lo be nm)) (frm := frm) (w := w) (g := cR w (aG s.sum w.vars).1 (aR w s.sum g)) (t := (aG s.sum w.vars).1) h1 h2 (by omega)) Z Z Z Z Z (B0 := 178000) Z Z Z Z Z Z Z) Z) trivial))))) ?_
  rw [ed, tg (of_decide_eq_true hc157)]
  apply fv
  repeat' (first | apply HN.cons Z | exact HN.nil Z | exact BN.row Z | exact BN.map Z | apply BN.box Z | apply MN.cons Z | exact MN.nil Z | exact XN.d Z | exact XN.rs Z | exact c5)
  exact ⟨Z, (((aT [3,7,4,500,503,901,173008,904,178009,906] (e' := [(3, _), (4, _), (7, _)]) Z Z ⟨Z, Z, Z, trivial⟩ Z).trans (af 173008 902 Z Z)).trans (af 178009 905 Z Z)).trans (Ent.to ⟨Z, Z, Z, trivial⟩ Z)⟩
  refine ag (j2 O Z Z (jn (AWP.cond O Z Z (fun hc178 => ?_) (fun hc178 => ?_))))
  exact absurd (of_decide_eq_true hc178) (by omega)
  refine ag (j2 O Z Z (jn (AWP.cond O Z Z (fun hc196 => ?_) (fun hc196 => ?_))))
  exact absurd (of_decide_eq_true hc196) (by omega)
  refine AWP.skip ?_
  rw [ed, tm (of_decide_eq_false hc84) (of_decide_eq_false hc103) (of_decide_eq_false hc130) (of_decide_eq_false hc145) (of_decide_eq_false hc157)]
  apply fv
  repeat' (first | apply HN.cons Z | exact HN.nil Z | exact BN.row Z | exact BN.map Z | apply BN.box Z | apply MN.cons Z | exact MN.nil Z | exact XN.d Z | exact XN.rs Z | exact c5)
  exact ⟨Z, (aT [3,7,4,500,503,901,902,904,905,906] (e' := [(3, _), (4, _), (7, _)]) Z Z ⟨Z, Z, Z, trivial⟩ Z).trans (Ent.to ⟨Z, Z, Z, trivial⟩ Z)⟩
  refine AWP.region (j2 O Z Z (jn ?_))
  exact ⟨⟨n, r, d.1, d.2, cc + 2⟩, ((aT [3,4,500,503,901,902,904,905,906] (e' := [(2, _), (3, _), (4, _)]) Z Z ⟨Z, Z, Z, trivial⟩ Z)).trans (Ent.to ⟨Z, Z, Z, trivial⟩ Z), ⟨⟨fl, _, h⟩, by show aD r < n; omega, by show n ≤ N; omega, ed ▸ hw.leaf, ed ▸ ml hg, by show cc + 2 + kZ (aD r) ≤ L; omega, ed ▸ hG⟩, Nat.lt_succ_self n⟩
 | @seq i k x y r hk1 h =>
  have hb : g.bad = false := by simpa using hc15
  generalize hs0 : b.getD k default = s at hk1 hG hlt hbd hge ⊢
  rw [em hb hk1] at hG
  refine AWP.block (AWP.seq (ag (j2 O Z Z (jn (AWP.cond O Z Z (fun hc17 => ?_) (fun hc17 => ?_))))))
  cases hc17
  refine AWP.skip (AWP.seq (ag (j4 O Z Z Z Z (js O Z (jf [31,17,16,15,2,3,4] Z (jn (AWP.cond O Z Z (fun hc31 => ?_) (fun hc31 => ?_))))))))
  cases hc31
  refine AWP.skip (AWP.seq (oG O [_,_,_,_,_,_,_,_,_,_,_,_] [pn [] 0 1, pn [0] 0 1, pn [0,1] 0 1, pn [0,1,2] 0 1, pn [] 0 2, pn [4] 0 2, pn [4,5] 0 2, pn [4,5,6] 0 2, pn [] 0 1, pe [] 0, pe [0,1,2,3,8,9] 1, pe [0,1,2,3,4,5,6,7,8,9,10] 2] [9,10,11] 8 6 (.box [.d .nilp]) [_,_] [_,_] [] (ai (kf O Z Z Z (kg O Z Z Z)) (ai (kf O Z Z Z (kg O Z Z Z)) (ai (kf O Z Z Z (kg O Z Z Z)) (ai (kf O Z Z Z (kg O Z Z Z)) (ai (kf O Z Z Z (kf O Z Z Z (kg O Z Z Z))) (ai (kf O Z Z Z (kf O Z Z Z (kg O Z Z Z))) (ai (kf O Z Z Z (kf O Z Z Z (kg O Z Z Z))) (ai (kf O Z Z Z (kf O Z Z Z (kg O Z Z Z))) (ai (ai (ai (aO (Eff.alloc O Z Z Z Z Z Z)) Z) (ai (aO (Eff.alloc O Z Z Z Z Z Z)) Z)) (ai (ai (aJ (aO (Eff.alloc O Z Z Z Z Z Z)) (aO (Eff.alloc O Z Z Z Z Z Z))) Z) (ai (ai (aJ trivial (aO (aC O Z Z Z Z Z Z Z Z Z Z Z Z Z))) Z) (ai (ai (aJ trivial (aO (aC O Z Z Z Z Z Z Z Z Z Z Z Z Z))) Z) trivial)))))))))))) ?_))
  refine jw [7,6,31,17,16,15,2,3,4] Z (bZ ?_)
  refine AWP.seq (ag (j4 O Z Z Z Z (js O Z (jf [64,7,6,31,17,16,15,2,3,4] Z (jn (AWP.block (ag (j2 O Z Z (jn (AWP.cond O Z Z (fun hc65 => ?_) (fun hc65 => ?_)))))))))))
  refine f6 O [_,_,_,_,_,_,_,_,_,_,_,_,_,_,_,_,_,_] [pn [] 0 1, pn [0] 0 1, pn [0,1] 0 1, pn [0,1,2] 0 1, pn [0,1,2,3] 0 1, pn [0,1,2,3,4] 0 1, pn [] 0 0, pn [6] 0 0, pn [6,7] 0 0, pn [6,7,8] 0 0, pn [6,7,8,9] 0 0, pn [6,7,8,9,10] 0 0, pn [] 0 0, pn [6,7,8,9,10,11,12] 0 0, pe [6,7,8,9,10,11,12,13] 0, pn [0,1,2,3,4,5,6,7,8,9,10,11,12,13,14] 1 1, pe [0,1,2,3,4,5,6,7,8,9,10,11,12,13,14,15] 1, pe [0,1,2,3,4,5,6,7,8,9,10,11,12,13,14,15,16] 2] [14,16,17] [_,_,_,_] (ai (kc O Z (V O Z)) (ai (kc O Z (V O Z)) (ai (kc O Z (V O Z)) (ai (kc O Z (V O Z)) (ai (ai (aV O Z Z Z Z Z Z Z Z (by simp [Trs.d]) Z) (aV O Z Z Z Z Z Z Z Z (by simp [Trs.d]) Z)) (ai (kc O Z (V O Z)) (kc O Z (kc O Z (kc O Z (kc O Z (ai (aV O Z Z Z Z Z Z Z Z (by simp [Trs.d]) Z) (kc O Z (kc O Z (kc O Z (ai (Eff.box O Z Z Z Z Z Z Z Z) (kc O Z (ai (Eff.box O Z Z Z Z Z Z Z Z) (ai (aC O Z Z Z Z Z Z Z Z Z Z Z Z Z) trivial)))))))))))))))))) ?_
  refine jw [65,66,64,7,6,31,17,16,15,2,3,4] Z (bZ ?_)
  refine AWP.region (aA (Ent.freeze 81 (e' := [(2, _), (3, _), (4, _), (7, _)]) Z (.cons Z (.keep Z) (.cons Z (.keep Z) (.cons Z (.keep Z) (.cons Z (.keep Z) .nil)))) (.cons Z (.box (.cons (.keep Z) .nil)) (.cons Z (.box (.cons (.keep Z) (.cons (.keep Z) (.cons (.keep Z) (.cons (.keep Z) (.cons (.keep Z) (.cons (.keep Z) .nil))))))) (.cons Z (.box (.cons (.keep Z) .nil)) (.cons Z (.box (.cons (.keep Z) .nil)) (.skip (.cons Z (.box (.cons (.keep Z) (.cons (.keep Z) (.cons (.box (cs := [y.d, .int .i64 0, fD r]) Z (aw Z)) .nil)))) (.cons Z (.box (.cons (.keep Z) (.cons (.keep Z) (.cons (.keep Z) (.cons (.keep Z) (.cons (.keep Z) (.cons (.keep Z) (.cons (.keep Z) (.cons (.keep Z) (.cons (.keep Z) .nil)))))))))) (.cons Z .map (.cons Z .row (.cons Z .row (.cons Z .row (.cons Z .row (.cons Z .row .nil)))))))))))))) ?_)
  refine aA (Ent.freeze 83 (e' := [(2, _), (3, _), (4, _), (7, _)]) Z (.cons Z (.keep Z) (.cons Z (.keep Z) (.cons Z (.keep Z) (.cons Z (.keep Z) .nil)))) (.cons Z (.box (.cons (.keep Z) .nil)) (.cons Z (.box (.cons (.keep Z) (.cons (.keep Z) (.cons (.keep Z) (.cons (.keep Z) (.cons (.keep Z) (.cons (.keep Z) .nil))))))) (.cons Z (.box (.cons (.keep Z) .nil)) (.cons Z (.box (.cons (.box (cs := [x.d, .int .i64 0, .ptr [y.d, .int .i64 0, fD r] 0]) Z (aw Z)) .nil)) (.skip (.cons Z (.box (.cons (.keep Z) (.cons (.keep Z) (.cons (.keep Z) (.cons (.keep Z) (.cons (.keep Z) (.cons (.keep Z) (.cons (.keep Z) (.cons (.keep Z) (.cons (.keep Z) .nil)))))))))) (.cons Z .map (.cons Z .row (.cons Z .row (.cons Z .row (.cons Z .row (.cons Z .row .nil))))))))))))) ?_
  refine j2 O Z Z (jn ?_)
  exact ⟨⟨n, .st x :: .st y :: r, w, g, cc⟩, ((aT [3,4,500,503,901,902,904,905,906] (e' := [(2, _), (3, _), (4, _)]) Z Z ⟨Z, Z, Z, trivial⟩ Z)).trans (Ent.to ⟨Z, Z, Z, trivial⟩ Z), ⟨⟨fl, _, h⟩, by simp only [aD, Fr.nodes, Tr.nodes, Trs.nodes] at hlt ⊢; omega, by show n ≤ N; omega, hw.le (Nat.le_succ n), hg, Nat.le_trans (Nat.add_le_add_left (bR (by simp only [aD, Fr.nodes, Tr.nodes, Trs.nodes]; omega)) cc) hbd, hG⟩, Nat.lt_succ_self n⟩
  exact absurd (of_decide_eq_false hc65) (by omega)
 | @cond i k x y r hi hs hk h7 p1 p2 =>
  have hb : g.bad = false := by simpa using hc15
  have hst := hE.st _ hk
  have htm := gE hst
  have hx0 := db (t := x)
  have hy0 := db (t := y)
  generalize hs0 : b.getD k default = s at hst htm h7 hG hlt hbd hge ⊢
  rw [fL hb (by omega)] at hG
  have e0 : aD (.st (.node s (k : Nat) [x, y]) :: r) = 1 + (x.nodes + y.nodes) + aD r := by simp only [aD, Fr.nodes, Tr.nodes, Trs.nodes]; omega
  have ex : aD (.st x :: r) = x.nodes + aD r := rfl
  have ey : aD (.st y :: r) = y.nodes + aD r := rfl
  rw [e0] at hlt hbd
  have e := mr (m := 1 + (x.nodes + y.nodes) + aD r - 2)
  rw [show 1 + (x.nodes + y.nodes) + aD r - 2 + 2 = 1 + (x.nodes + y.nodes) + aD r by omega] at e
  have e1 := bR (m := aD (.st x :: r)) (n := 1 + (x.nodes + y.nodes) + aD r - 2) (by omega)
  have e2 := bR (m := aD (.st y :: r)) (n := 1 + (x.nodes + y.nodes) + aD r - 2) (by omega)
  have hg2 : GOk cc (bS w (aG s.sum w.vars).1 (aR w s.sum g)) := hg.flag.flag.flag
  have hg3 := eL hE (la := bH) (frm := frm) (n := n) (w := w.fact (aG s.sum w.vars).1) p1 hg2
  refine AWP.block (AWP.seq (ag (j2 O Z Z (jn (AWP.cond O Z Z (fun hc17 => ?_) (fun hc17 => ?_))))))
  cases hc17
  refine AWP.skip (AWP.seq (ag (j4 O Z Z Z Z (js O Z (jf [31,17,16,15,2,3,4] Z (jn (AWP.cond O Z Z (fun hc31 => ?_) (fun hc31 => ?_))))))))
  cases hc31
  refine AWP.skip (AWP.seq (oG O [_,_,_,_,_,_,_,_,_,_,_,_] [pn [] 0 1, pn [0] 0 1, pn [0,1] 0 1, pn [0,1,2] 0 1, pn [] 0 2, pn [4] 0 2, pn [4,5] 0 2, pn [4,5,6] 0 2, pn [] 0 1, pe [] 0, pe [0,1,2,3,8,9] 1, pe [0,1,2,3,4,5,6,7,8,9,10] 2] [9,10,11] 8 6 (.box [.d .nilp]) [_,_] [_,_] [] (ai (kf O Z Z Z (kg O Z Z Z)) (ai (kf O Z Z Z (kg O Z Z Z)) (ai (kf O Z Z Z (kg O Z Z Z)) (ai (kf O Z Z Z (kg O Z Z Z)) (ai (kf O Z Z Z (kf O Z Z Z (kg O Z Z Z))) (ai (kf O Z Z Z (kf O Z Z Z (kg O Z Z Z))) (ai (kf O Z Z Z (kf O Z Z Z (kg O Z Z Z))) (ai (kf O Z Z Z (kf O Z Z Z (kg O Z Z Z))) (ai (ai (ai (aO (Eff.alloc O Z Z Z Z Z Z)) Z) (ai (aO (Eff.alloc O Z Z Z Z Z Z)) Z)) (ai (ai (aJ (aO (Eff.alloc O Z Z Z Z Z Z)) (aO (Eff.alloc O Z Z Z Z Z Z))) Z) (ai (ai (aJ trivial (aO (aC O Z Z Z Z Z Z Z Z Z Z Z Z Z))) Z) (ai (ai (aJ trivial (aO (aC O Z Z Z Z Z Z Z Z Z Z Z Z Z))) Z) trivial)))))))))))) ?_))
  refine jw [7,6,31,17,16,15,2,3,4] Z (bZ ?_)
  refine AWP.seq (ag (j4 O Z Z Z Z (js O Z (jf [64,7,6,31,17,16,15,2,3,4] Z (jn (AWP.block (ag (j2 O Z Z (jn (AWP.cond O Z Z (fun hc65 => ?_) (fun hc65 => ?_)))))))))))
  exact absurd (of_decide_eq_true hc65) (by omega)
  refine ag (j2 O Z Z (jn (AWP.cond O Z Z (fun hc84 => ?_) (fun hc84 => ?_))))
  exact absurd (of_decide_eq_true hc84) (by omega)
  refine ag (j2 O Z Z (jn (AWP.cond O Z Z (fun hc103 => ?_) (fun hc103 => ?_))))
  exact absurd (of_decide_eq_true hc103) (by omega)
  refine ag (j2 O Z Z (jn (AWP.cond O Z Z (fun hc130 => ?_) (fun hc130 => ?_))))
  exact absurd (of_decide_eq_true hc130) (by omega)
  refine ag (j2 O Z Z (jn (AWP.cond O Z Z (fun hc145 => ?_) (fun hc145 => ?_))))
  exact absurd (of_decide_eq_true hc145) (by omega)
  refine ag (j2 O Z Z (jn (AWP.cond O Z Z (fun hc157 => ?_) (fun hc157 => ?_))))
  exact absurd (of_decide_eq_true hc157) (by omega)
  refine ag (j2 O Z Z (jn (AWP.cond O Z Z (fun hc178 => ?_) (fun hc178 => ?_))))
  refine AWP.seq ?_
  have hT := tF (c := (br E SS bd lo be nm)) (g := (aR w s.sum g)) (frm := frm) (w := w) (t := (aG s.sum w.vars).1) (d8 := Tr.d (.node s k [x, y])) (d9 := fD r) (Y := (dz bH E frm n (.st x :: r))) (N := (dz bH E frm n (.st y :: r))) h1 h2 (fun u g h => ce h) (fun u g h => ce h) dq (by omega) (by omega) (by omega) (fun _ => vA h1 h2 (ih n (by omega) ⟨fl, _, p1⟩ (by omega) (hw.fact) hg2 (by omega))) (fun _ => vz h1 h2 (ih n (by omega) ⟨fl, _, p2⟩ (by omega) (hw.fact) hg3 (by omega)))
  refine jE O [_,_,_,_,_,_,_,_,_,_,_,_,_,_,_,_] [pn [] 0 1, pn [0] 0 1, pn [0,1] 0 1, pn [] 0 1, pn [] 0 0, pn [4] 0 0, pn [4,5] 0 0, pn [] 0 0, pn [7] 0 0, pn [7,8] 0 0, pn [7,8,9] 0 0, pn [7,8,9,10] 0 0, pe [4,5,6,7,8,9,10,11] 0, pn [] 0 1, pn [] 0 1, pe [0,1,2,3,4,5,6,7,8,9,10,11,12,13,14] 1] [12,15] [_, [(3, pB 500), (6, xB (Tr.d (.node s (k : Nat) [x, y]))), (7, xB (fD r)), (500, iB (br E SS bd lo be nm) (aR w s.sum g) 901 902 503), (901, ax (aR w s.sum g).paths), (902, ay (aR w s.sum g).conds), (503, aL nm), (4, iW frm w 904 905 906), (904, aE w.vars), (905, aE w.facts), (906, ba w.ev)], _] [[], [901,902,904,905,906]] (ai (ka O Z Z (kw O Z Z)) (ai (ka O Z Z (kw O Z Z)) (ai (ka O Z Z (kw O Z Z)) (ai (ka O Z Z (kw O Z Z)) (ka O Z Z (ka O Z Z (ka O Z Z (ka O Z Z (ka O Z Z (ka O Z Z (ka O Z Z (ka O Z Z (ai (ai (aO (b0 O [500,901,902,503,4,904,905,906] (bin := [iB (br E SS bd lo be nm) g 1 2 3, ax g.paths, ay g.conds, aL nm, iW frm w 5 6 7, aE w.vars, aE w.facts, ba w.ev]) Z Z Z Z (jI (c := (br E SS bd lo be nm)) (frm := frm) (w := w) (g := g) (t := s.sum) h1 h2 htm.1.1 hva (by have := htm.1.2; omega)) Z Z Z Z Z (B0 := 193000) Z Z Z Z Z Z)) Z) (ai (ka O Z Z (kw O Z Z)) (ai (ka O Z Z (kw O Z Z)) (ai (ai (bM O [500,901,902,503,904,905,906,3,6,7] [901,902,904,905,906] (bin := [iB (br E SS bd lo be nm) (aR w s.sum g) 1 2 3, ax (aR w s.sum g).paths, ay (aR w s.sum g).conds, aL nm, aE w.vars, aE w.facts, ba w.ev, pB 0, xB (Tr.d (.node s k [x, y])), xB (fD r)]) Z Z Z Z (hT) Z Z Z Z Z (B0 := 196000) Z Z Z Z Z Z Z) Z) trivial)))))))))))))))) ?_
  refine jw [178,179,157,158,145,146,130,131,103,104,84,85,65,66,64,7,6,31,17,16,15,2,3,4] Z (bZ ?_)
  refine AWP.ret ?_
  rw [← hG]
  refine ⟨.inl Z, _, (af 196010 510 Z Z).trans (af 196011 511 Z Z), _, Z, Z, Z⟩
  exact absurd (of_decide_eq_false hc178) (by omega)
 | @loop i k x r hi hs hk h8 =>
  have hb : g.bad = false := by simpa using hc15
  have hnum := hP.num _ hk h8
  have hf := eh (hE.st _ hk)
  have hEn := hE.num _ hk h8
  generalize hs0 : b.getD k default = s at h8 hf hG hlt hbd hge ⊢
  rw [fJ hb, hEn] at hG
  refine AWP.block (AWP.seq (ag (j2 O Z Z (jn (AWP.cond O Z Z (fun hc17 => ?_) (fun hc17 => ?_))))))
  cases hc17
  refine AWP.skip (AWP.seq (ag (j4 O Z Z Z Z (js O Z (jf [31,17,16,15,2,3,4] Z (jn (AWP.cond O Z Z (fun hc31 => ?_) (fun hc31 => ?_))))))))
  cases hc31
  refine AWP.skip (AWP.seq (oG O [_,_,_,_,_,_,_,_,_,_,_,_] [pn [] 0 1, pn [0] 0 1, pn [0,1] 0 1, pn [0,1,2] 0 1, pn [] 0 2, pn [4] 0 2, pn [4,5] 0 2, pn [4,5,6] 0 2, pn [] 0 1, pe [] 0, pe [0,1,2,3,8,9] 1, pe [0,1,2,3,4,5,6,7,8,9,10] 2] [9,10,11] 8 6 (.box [.d .nilp]) [_,_] [_,_] [] (ai (kf O Z Z Z (kg O Z Z Z)) (ai (kf O Z Z Z (kg O Z Z Z)) (ai (kf O Z Z Z (kg O Z Z Z)) (ai (kf O Z Z Z (kg O Z Z Z)) (ai (kf O Z Z Z (kf O Z Z Z (kg O Z Z Z))) (ai (kf O Z Z Z (kf O Z Z Z (kg O Z Z Z))) (ai (kf O Z Z Z (kf O Z Z Z (kg O Z Z Z))) (ai (kf O Z Z Z (kf O Z Z Z (kg O Z Z Z))) (ai (ai (ai (aO (Eff.alloc O Z Z Z Z Z Z)) Z) (ai (aO (Eff.alloc O Z Z Z Z Z Z)) Z)) (ai (ai (aJ (aO (Eff.alloc O Z Z Z Z Z Z)) (aO (Eff.alloc O Z Z Z Z Z Z))) Z) (ai (ai (aJ trivial (aO (aC O Z Z Z Z Z Z Z Z Z Z Z Z Z))) Z) (ai (ai (aJ trivial (aO (aC O Z Z Z Z Z Z Z Z Z Z Z Z Z))) Z) trivial)))))))))))) ?_))
  refine jw [7,6,31,17,16,15,2,3,4] Z (bZ ?_)
  refine AWP.seq (ag (j4 O Z Z Z Z (js O Z (jf [64,7,6,31,17,16,15,2,3,4] Z (jn (AWP.block (ag (j2 O Z Z (jn (AWP.cond O Z Z (fun hc65 => ?_) (fun hc65 => ?_)))))))))))
  exact absurd (of_decide_eq_true hc65) (by omega)
  refine ag (j2 O Z Z (jn (AWP.cond O Z Z (fun hc84 => ?_) (fun hc84 => ?_))))
  exact absurd (of_decide_eq_true hc84) (by omega)
  refine ag (j2 O Z Z (jn (AWP.cond O Z Z (fun hc103 => ?_) (fun hc103 => ?_))))
  exact absurd (of_decide_eq_true hc103) (by omega)
  refine ag (j2 O Z Z (jn (AWP.cond O Z Z (fun hc130 => ?_) (fun hc130 => ?_))))
  exact absurd (of_decide_eq_true hc130) (by omega)
  refine ag (j2 O Z Z (jn (AWP.cond O Z Z (fun hc145 => ?_) (fun hc145 => ?_))))
  exact absurd (of_decide_eq_true hc145) (by omega)
  refine ag (j2 O Z Z (jn (AWP.cond O Z Z (fun hc157 => ?_) (fun hc157 => ?_))))
  exact absurd (of_decide_eq_true hc157) (by omega)
  refine ag (j2 O Z Z (jn (AWP.cond O Z Z (fun hc178 => ?_) (fun hc178 => ?_))))
  exact absurd (of_decide_eq_true hc178) (by omega)
  refine ag (j2 O Z Z (jn (AWP.cond O Z Z (fun hc196 => ?_) (fun hc196 => ?_))))
  refine AWP.seq (f6 O [_,_,_,_,_,_,_,_,_,_] [pn [] 0 0, pn [0] 0 0, pn [0,1] 0 0, pn [0,1,2] 0 0, pn [] 0 0, pn [4] 0 0, pn [4,5] 0 0, pn [4,5,6] 0 0, pn [0,1,2,3,4,5,6,7] 0 0, pn [0,1,2,3,4,5,6,7,8] 0 0] [] [_] (kc O Z (kc O Z (kc O Z (kc O Z (kc O Z (kc O Z (kc O Z (kc O Z (ai ((nu (kt := 2) (et := 2) (q := .i64) (z := .int .i64 0) (es := nm) (k := (k : Nat)) O Z Z Z uu uK zK Z Z Z Z).cast (v' := eI (aS b k : Nat)) (by rw [hnum]; rfl)) (kc O Z trivial)))))))))) ?_)
  refine jw [9,196,197,178,179,157,158,145,146,130,131,103,104,84,85,65,66,64,7,6,31,17,16,15,2,3,4] Z (bZ ?_)
  refine AWP.seq (jE O [_,_,_,_,_,_,_,_,_,_] [pn [] 0 0, pn [0] 0 0, pn [0,1] 0 0, pn [] 0 0, pn [] 0 0, pn [4] 0 0, pn [4,5] 0 0, pn [4,5,6] 0 0, pn [4,5,6,7] 0 0, pe [0,1,2,3,4,5,6,7,8] 0] [9] [_,_] [[901,902]] (ka O Z Z (ka O Z Z (ka O Z Z (ka O Z Z (ka O Z Z (ka O Z Z (ka O Z Z (ka O Z Z (ka O Z Z (ai (ai (bM O [500,901,902,503,4,904,905,906] [901,902] (bin := [iB (br E SS bd lo be nm) g 1 2 3, ax g.paths, ay g.conds, aL nm, iW frm w 5 6 7, aE w.vars, aE w.facts, ba w.ev]) Z Z Z Z (qs (c := (br E SS bd lo be nm)) (g := g) (frm := frm) (w := w) (to := (aS b k : Nat)) (fs := s.facts) h1 h2 hw.ctx hw.vars hf.1 (by have := hf.2; omega) (by omega)) Z Z Z Z Z (B0 := 217000) Z Z Z Z Z Z Z) Z) trivial)))))))))) ?_)
  refine jw [196,197,178,179,157,158,145,146,130,131,103,104,84,85,65,66,64,7,6,31,17,16,15,2,3,4] Z (bZ ?_)
  refine AWP.ret ?_
  rw [← hG]
  refine ⟨.inl Z, _, (af 217009 510 Z Z).trans (af 217008 511 Z Z), _, Z, Z, Z⟩
  exact absurd (of_decide_eq_false hc196) (by omega)
 refine AWP.exit ?_
 show _ ∧ _
 have hb : g.bad = true := by simpa using hc15
 rw [← hG, ce hb]
 refine ⟨.inr Z, _, (af 901 510 Z Z).trans (af 902 511 Z Z), _, Z, Z, Z⟩
theorem qt {L : Nat} (h1 : 4096 ≤ L) (h2 : L ≤ 1073741824) {E : Pe} {b : List Sm} {SS : List (List Tm)} {bd lo be : D} {nm : List (Int × D)} {frm : Int} (hE : EOk E b) (hbl : b.length ≤ 1000) (hP : PcOk E b SS nm) (n : Nat) : ∀ {r : List Fr} {w : Pw} {g : Gs} {c : Nat}, (∃ fl i, Pl b fl i r) → aD r < n → WOk n w → GOk c g → c + kZ (aD r) ≤ L → j8 L (br E SS bd lo be nm) frm w g (fD r) (dz bH E frm n r w g) := by
 induction n using Nat.strongRecOn with
 | _ n ih =>
  intro r w g c hp hn hw hg hL
  exact tG h1 h2 hE hbl hP (N := n) (r0 := r) (w0 := w) (g0 := g) (c0 := c) (fun m hm => ih m hm) ⟨hp, hn, Nat.le_refl _, hw, hg, hL, Z⟩
end Go.Al
