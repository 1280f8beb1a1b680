/- The program follows a path. -/
import Derived.Test.YtnnbiajhcolfiaaGreatP
import Derived.Test.YtnnbiajhcolfiaaGreatC
set_option linter.unusedVariables false
set_option linter.unusedSimpArgs false
set_option maxRecDepth 10000
set_option maxHeartbeats 4000000
open Go.Proofs
namespace Go.Al
variable {L : Nat} (h1 : 4096 ≤ L) (h2 : L ≤ 1073741824)
abbrev xB (d : D) : B := .box [.d d]
abbrev pB (l : Nat) : B := .box [.pt l 0 0]
abbrev iT (c : Pc) (g : Gs) (w : Pw) (d8 d9 : D) : List (Nat × B) := [(0, iB c g 1 2 3), (1, aJ g.paths), (2, aK g.conds), (3, aX c.num), (4, aE w.vars), (5, aE w.facts), (6, aA w.ev), (7, pB 0), (8, xB d8), (9, xB d9)]
abbrev oT (c : Pc) (g : Gs) (d8 d9 : D) : List (Nat × B) := [(0, iB c g 10 11 3), (3, aX c.num), (7, pB 0), (8, xB d8), (9, xB d9), (10, aJ g.paths), (11, aK g.conds)]
abbrev ca (w : Pw) (t : Tm) (g : Gs) : Gs := (g.flag (!(bu t).2)).flag (w.fact t).long
theorem jP {g : Gs} (h : g.bad = true) {b : Bool} : g.flag b = g := by cases g; simp only at h; simp [Gs.flag, h]
def kY (Y : Pw → Gs → Gs) : Prop := ∀ u g, g.bad = true → Y u g = g
theorem sN {Y : Pw → Gs → Gs} (hY : kY Y) {w : Pw} {t u : Tm} {g : Gs} (hb : (Y (w.fact t) (ca w t g)).bad = false) : (Y (w.fact t) (ca w t g)).flag (w.fact u).long = Y (w.fact t) (ca w t g) := by
 have h2 : (ca w t g).bad = false := by
  cases h : (ca w t g).bad with
  | false => rfl
  | true => rw [hY _ _ h, h] at hb; cases hb
 have h3 : (w.fact t).long = false := by simp [ca, Gs.flag] at h2; exact h2.2
 rw [nC (t := u) (u := t), h3, kM]
theorem vf {Y N : Pw → Gs → Gs} (hY : kY Y) (hN : kY N) {w : Pw} {t : Tm} {g : Gs} (h : (g.flag (!(bu t).2)).bad = true) : c8 Y N w t g = g.flag (!(bu t).2) := by
 rw [c8, jP h, hY _ _ h, hN _ _ h]
theorem ve {Y N : Pw → Gs → Gs} (hY : kY Y) (hN : kY N) {w : Pw} {t : Tm} {g : Gs} (h : (ca w t g).bad = true) : c8 Y N w t g = ca w t g := by
 rw [c8, hY _ _ h, hN _ _ h]
theorem vd {Y N : Pw → Gs → Gs} (hN : kY N) {w : Pw} {t : Tm} {g : Gs} (h : (Y (w.fact t) (ca w t g)).bad = true) : c8 Y N w t g = Y (w.fact t) (ca w t g) := by
 rw [c8, hN _ _ h]
theorem sZ {L : Nat} (h1 : 4096 ≤ L) (h2 : L ≤ 1073741824) {c : Pc} {g : Gs} {frm : Int} {w : Pw} {t : Tm} (hl : w.facts.length ≤ 1000) (he : g.flag (w.fact t).long = g) : MC Tryz.prog L 116 [.c (.pt 0 0 0), .c (.pt 4 0 0), cT t] (iH c g frm w) (aS (.tup []) (AR c g frm (w.fact t))) := by
 have h := qI h1 h2 (c := c) (g := g) (frm := frm) (w := w) (t := t) hl
 rw [he] at h
 exact h
variable {c : Pc} {g : Gs} {frm : Int} {w : Pw}
theorem wY {t : Tm} {d8 d9 : D} {fy fn : Nat} {Y N : Pw → Gs → Gs} (hY : kY Y) (hN : kY N) (ht : t.ok = true) (hv : w.vars.length ≤ 1000) (hl : w.facts.length ≤ 1000) (he : w.ev.length ≤ 1000)
  (hy : (ca w t g).bad = false → MQ h1 h2 fy [wA frm (w.fact t) 4 5 6, .c (.pt 7 0 0), .c (.pt 8 0 0), .c (.pt 9 0 0)] (iT c (ca w t g) (w.fact t) d8 d9) (aS (.tup []) (oT c (Y (w.fact t) (ca w t g)) d8 d9))) (hn : (Y (w.fact t) (ca w t g)).bad = false → MQ h1 h2 fn [wA frm (w.fact (bu t).1) 4 5 6, .c (.pt 7 0 0), .c (.pt 8 0 0), .c (.pt 9 0 0)] (iT c (Y (w.fact t) (ca w t g)) (w.fact (bu t).1) d8 d9) (aS (.tup []) (oT c (N (w.fact (bu t).1) (Y (w.fact t) (ca w t g))) d8 d9))) :
  MQ h1 h2 73 [.c (.pt 0 0 0), wA frm w 4 5 6, cT t, .c (.fn fy [.pt 7 0 0, .pt 8 0 0, .pt 9 0 0]), .c (.fn fn [.pt 7 0 0, .pt 8 0 0, .pt 9 0 0])] (iT c g w d8 d9) (aS (.tup []) (oT c (c8 Y N w t g) d8 d9)) := by
 refine MC.shift 500 Z (MC.keep [500,503,507,508,509,510,511] (bs := [iB c (c8 Y N w t g) 510 511 503, aX c.num, pB 500, xB d8, xB d9, aJ (c8 Y N w t g).paths, aK (c8 Y N w t g).conds]) Z Z (jH 53 [500,501,502,503,504,505,506,507,508,509] h1 h2 Tryz.func73 Z Z Z Z fun O hF => ?_))
 refine bK ?_
 refine ag (jx O Z (ap ?_))
 refine jf [6,0,2,3,4] Z (jx O Z (ap ?_))
 refine au (Ent.freeze 7 (e' := [(7, _), (6, _), (0, _), (3, _), (4, _)]) Z (.cons Z (.c (.box (cs := Tm.cells t) Z (aC Z))) (fe [6,0,3,4] Z)) (.cons Z (.box (fk Z)) (.skip (.cons Z (.box (fk Z)) (.cons Z .row (.cons Z .row (.cons Z .map (.cons Z .row (.cons Z .row (.cons Z .row (.cons Z (.box (fk Z)) (.cons Z (.box (fk Z)) (.cons Z (.box (fk Z)) .nil))))))))))))) ?_
 refine ap ?_
 refine bn (j2 O Z Z (ay O Z Z Z Z (vw (t := t) h1 h2 ht) (af Z) Z Z Z Z (B0 := 16000) Z Z (j2 O Z Z (jf [17,16,13,7,6,0,3,4] Z (aj O [500,501,502,503] (bin := [iB c g 1 2 3, aJ g.paths, aK g.conds, aX c.num]) Z Z Z Z (sY (c := c) (g := g) (t := (bu t).1) (ok := (bu t).2) h1 h2) Z Z Z Z Z Z (B0 := 19000) Z Z (ap ?_))))))
 refine jf [18,7,6,0,3,4] Z (jl O Z (ap ?_))
 refine jo O Z (ap ?_)
 refine au (Ent.freeze 10 (e' := [(10, _), (6, _), (7, _), (0, _), (3, _), (4, _)]) Z (.cons Z (.c (.box (cs := Tm.cells (bu t).1) Z (aC Z))) (fe [6,7,0,3,4] Z)) (.cons Z (.box (fk Z)) (.skip (.cons Z .row (.cons Z .row (.cons Z .row (.cons Z (.box (fk Z)) (.cons Z (.box (fk Z)) (.cons Z (.box (fk Z)) (.cons Z (.box (fk Z)) (.cons Z .row (.cons Z .row (.cons Z .map .nil))))))))))))) ?_
 refine ap ?_
 refine jn (ah (ag (j4 O Z Z Z Z (jf [22,10,6,7,0,3,4] Z (jn (ae O Z Z (fun hc22 => ?_) (fun hc22 => ?_)))))))
 refine ff ?_
 rw [vf hY hN hc22]
 refine ⟨.inl Z, _, (ac 501 510 Z Z).trans (ac 502 511 Z Z), _, Z, Z, Z⟩
 refine ak (ag (js O Z (jf [23,10,6,7,0,3,4] Z (aj O [504,505,506] (bin := [aE w.vars, aE w.facts, aA w.ev]) Z Z Z Z (qH (frm := frm) (w := w) h1 h2 hv hl he) Z Z Z Z Z Z (B0 := 25000) Z Z (ap ?_)))))
 refine jf [24,10,6,7,0,3,4] Z (jl O Z (ap ?_))
 refine jo O Z (ap ?_)
 refine bn (j2 O Z Z (aj O [500,501,502,503,11,25003,25004,25005] (bin := [iB c (g.flag (!(bu t).2)) 1 2 3, aJ (g.flag (!(bu t).2)).paths, aK (g.flag (!(bu t).2)).conds, aX c.num, iW frm w 5 6 7, aE w.vars, aE w.facts, aA w.ev]) Z Z Z Z (qI (c := c) (g := (g.flag (!(bu t).2))) (frm := frm) (w := w) (t := t) h1 h2 hl) Z Z Z Z Z Z (B0 := 28000) Z Z (ap ?_)))
 refine jf [11,24,10,6,7,0,3,4] Z (jn (ah (ag (j4 O Z Z Z Z (js O Z (jf [32,11,24,10,6,7,0,3,4] Z (jn (ae O Z Z (fun hc32 => ?_) (fun hc32 => ?_)))))))))
 refine an (j2 O Z Z (jf [34,33,11,24,10,6,7,0,4] Z (aj O [500,501,502,503,25003,28009,25005,507,508,509] (bin := [iB c (ca w t g) 1 2 3, aJ (ca w t g).paths, aK (ca w t g).conds, aX c.num, aE (w.fact t).vars, aE (w.fact t).facts, aA (w.fact t).ev, pB 0, xB d8, xB d9]) Z Z Z Z (hy (by simpa using hc32)) Z Z Z Z Z Z (B0 := 36000) Z Z (ap ?_))))
 refine jf [11,24,10,6,7,0,4] Z (jn (ah (ag (j4 O Z Z Z Z (jf [39,11,24,10,6,7,0,4] Z (jn (ae O Z Z (fun hc39 => ?_) (fun hc39 => ?_))))))))
 refine ff ?_
 rw [vd hN hc39]
 refine ⟨.inl Z, _, (ac 36010 510 Z Z).trans (ac 36011 511 Z Z), _, Z, Z, Z⟩
 refine ak (ag (js O Z (jf [40,11,24,10,6,7,0,4] Z (aj O [504,505,506] (bin := [aE w.vars, aE w.facts, aA w.ev]) Z Z Z Z (qH (frm := frm) (w := w) h1 h2 hv hl he) Z Z Z Z Z Z (B0 := 42000) Z Z (ap ?_)))))
 refine jf [41,11,24,10,6,7,0,4] Z (jl O Z (ap ?_))
 refine jo O Z (ap ?_)
 refine bn (j2 O Z Z (aj O [500,36010,36011,503,12,42003,42004,42005] (bin := [iB c (Y (w.fact t) (ca w t g)) 1 2 3, aJ (Y (w.fact t) (ca w t g)).paths, aK (Y (w.fact t) (ca w t g)).conds, aX c.num, iW frm w 5 6 7, aE w.vars, aE w.facts, aA w.ev]) Z Z Z Z (sZ (c := c) (g := (Y (w.fact t) (ca w t g))) (frm := frm) (w := w) (t := (bu t).1) h1 h2 hl (sN hY hc39)) Z Z Z Z Z Z (B0 := 45000) Z Z (ap ?_)))
 refine jf [12,41,11,24,10,6,7,0,4] Z (bn (j4 O Z Z Z Z (js O Z (jf [49,12,41,11,24,10,6,7,0,4] Z (jn (ae O Z Z (fun hc49 => ?_) (fun hc49 => ?_)))))))
 refine an (j2 O Z Z (jf [51,50,12,41,11,24,10,6,7,0] Z (aj O [500,36010,36011,503,42003,45009,42005,507,508,509] (bin := [iB c (Y (w.fact t) (ca w t g)) 1 2 3, aJ (Y (w.fact t) (ca w t g)).paths, aK (Y (w.fact t) (ca w t g)).conds, aX c.num, aE (w.fact (bu t).1).vars, aE (w.fact (bu t).1).facts, aA (w.fact (bu t).1).ev, pB 0, xB d8, xB d9]) Z Z Z Z (hn hc39) Z Z Z Z Z Z (B0 := 53000) Z Z (ap ?_))))
 refine jf [12,41,11,24,10,6,7,0] Z (jn ?_)
 show _ ∧ _
 refine ⟨.inr Z, _, (ac 53010 510 Z Z).trans (ac 53011 511 Z Z), _, Z, Z, Z⟩
 exact absurd (show (!(Y (w.fact t) (ca w t g)).bad) = false from hc49) (by rw [show (Y (w.fact t) (ca w t g)).bad = false from hc39]; decide)
 refine ak (ah (ag (j4 O Z Z Z Z (jf [39,11,24,10,6,7,0,3,4] Z (jn (ae O Z Z (fun hc39 => ?_) (fun hc39 => ?_)))))))
 refine ff ?_
 rw [ve hY hN hc39]
 refine ⟨.inl Z, _, (ac 501 510 Z Z).trans (ac 502 511 Z Z), _, Z, Z, Z⟩
 exact absurd (show (!(ca w t g).bad) = false from hc32) (by rw [show (ca w t g).bad = false from hc39]; decide)
theorem wX {t : Tm} {d8 d9 : D} {fy fn : Nat} {Y N : Pw → Gs → Gs} (hY : kY Y) (hN : kY N) (ht : t.ok = true) (hv : w.vars.length ≤ 1000) (hl : w.facts.length ≤ 1000) (he : w.ev.length ≤ 1000)
  (hy : (ca w t g).bad = false → MQ h1 h2 fy [wA frm (w.fact t) 4 5 6, .c (.pt 7 0 0), .c (.pt 8 0 0), .c (.pt 9 0 0)] (iT c (ca w t g) (w.fact t) d8 d9) (aS (.tup []) (oT c (Y (w.fact t) (ca w t g)) d8 d9))) (hn : (Y (w.fact t) (ca w t g)).bad = false → MQ h1 h2 fn [wA frm (w.fact (bu t).1) 4 5 6, .c (.pt 7 0 0), .c (.pt 9 0 0)] (iT c (Y (w.fact t) (ca w t g)) (w.fact (bu t).1) d8 d9) (aS (.tup []) (oT c (N (w.fact (bu t).1) (Y (w.fact t) (ca w t g))) d8 d9))) :
  MQ h1 h2 73 [.c (.pt 0 0 0), wA frm w 4 5 6, cT t, .c (.fn fy [.pt 7 0 0, .pt 8 0 0, .pt 9 0 0]), .c (.fn fn [.pt 7 0 0, .pt 9 0 0])] (iT c g w d8 d9) (aS (.tup []) (oT c (c8 Y N w t g) d8 d9)) := by
 refine MC.shift 500 Z (MC.keep [500,503,507,508,509,510,511] (bs := [iB c (c8 Y N w t g) 510 511 503, aX c.num, pB 500, xB d8, xB d9, aJ (c8 Y N w t g).paths, aK (c8 Y N w t g).conds]) Z Z (jH 53 [500,501,502,503,504,505,506,507,508,509] h1 h2 Tryz.func73 Z Z Z Z fun O hF => ?_))
 refine bK ?_
 refine ag (jx O Z (ap ?_))
 refine jf [6,0,2,3,4] Z (jx O Z (ap ?_))
 refine au (Ent.freeze 7 (e' := [(7, _), (6, _), (0, _), (3, _), (4, _)]) Z (.cons Z (.c (.box (cs := Tm.cells t) Z (aC Z))) (fe [6,0,3,4] Z)) (.cons Z (.box (fk Z)) (.skip (.cons Z (.box (fk Z)) (.cons Z .row (.cons Z .row (.cons Z .map (.cons Z .row (.cons Z .row (.cons Z .row (.cons Z (.box (fk Z)) (.cons Z (.box (fk Z)) (.cons Z (.box (fk Z)) .nil))))))))))))) ?_
 refine ap ?_
 refine bn (j2 O Z Z (ay O Z Z Z Z (vw (t := t) h1 h2 ht) (af Z) Z Z Z Z (B0 := 16000) Z Z (j2 O Z Z (jf [17,16,13,7,6,0,3,4] Z (aj O [500,501,502,503] (bin := [iB c g 1 2 3, aJ g.paths, aK g.conds, aX c.num]) Z Z Z Z (sY (c := c) (g := g) (t := (bu t).1) (ok := (bu t).2) h1 h2) Z Z Z Z Z Z (B0 := 19000) Z Z (ap ?_))))))
 refine jf [18,7,6,0,3,4] Z (jl O Z (ap ?_))
 refine jo O Z (ap ?_)
 refine au (Ent.freeze 10 (e' := [(10, _), (6, _), (7, _), (0, _), (3, _), (4, _)]) Z (.cons Z (.c (.box (cs := Tm.cells (bu t).1) Z (aC Z))) (fe [6,7,0,3,4] Z)) (.cons Z (.box (fk Z)) (.skip (.cons Z .row (.cons Z .row (.cons Z .row (.cons Z (.box (fk Z)) (.cons Z (.box (fk Z)) (.cons Z (.box (fk Z)) (.cons Z (.box (fk Z)) (.cons Z .row (.cons Z .row (.cons Z .map .nil))))))))))))) ?_
 refine ap ?_
 refine jn (ah (ag (j4 O Z Z Z Z (jf [22,10,6,7,0,3,4] Z (jn (ae O Z Z (fun hc22 => ?_) (fun hc22 => ?_)))))))
 refine ff ?_
 rw [vf hY hN hc22]
 refine ⟨.inl Z, _, (ac 501 510 Z Z).trans (ac 502 511 Z Z), _, Z, Z, Z⟩
 refine ak (ag (js O Z (jf [23,10,6,7,0,3,4] Z (aj O [504,505,506] (bin := [aE w.vars, aE w.facts, aA w.ev]) Z Z Z Z (qH (frm := frm) (w := w) h1 h2 hv hl he) Z Z Z Z Z Z (B0 := 25000) Z Z (ap ?_)))))
 refine jf [24,10,6,7,0,3,4] Z (jl O Z (ap ?_))
 refine jo O Z (ap ?_)
 refine bn (j2 O Z Z (aj O [500,501,502,503,11,25003,25004,25005] (bin := [iB c (g.flag (!(bu t).2)) 1 2 3, aJ (g.flag (!(bu t).2)).paths, aK (g.flag (!(bu t).2)).conds, aX c.num, iW frm w 5 6 7, aE w.vars, aE w.facts, aA w.ev]) Z Z Z Z (qI (c := c) (g := (g.flag (!(bu t).2))) (frm := frm) (w := w) (t := t) h1 h2 hl) Z Z Z Z Z Z (B0 := 28000) Z Z (ap ?_)))
 refine jf [11,24,10,6,7,0,3,4] Z (jn (ah (ag (j4 O Z Z Z Z (js O Z (jf [32,11,24,10,6,7,0,3,4] Z (jn (ae O Z Z (fun hc32 => ?_) (fun hc32 => ?_)))))))))
 refine an (j2 O Z Z (jf [34,33,11,24,10,6,7,0,4] Z (aj O [500,501,502,503,25003,28009,25005,507,508,509] (bin := [iB c (ca w t g) 1 2 3, aJ (ca w t g).paths, aK (ca w t g).conds, aX c.num, aE (w.fact t).vars, aE (w.fact t).facts, aA (w.fact t).ev, pB 0, xB d8, xB d9]) Z Z Z Z (hy (by simpa using hc32)) Z Z Z Z Z Z (B0 := 36000) Z Z (ap ?_))))
 refine jf [11,24,10,6,7,0,4] Z (jn (ah (ag (j4 O Z Z Z Z (jf [39,11,24,10,6,7,0,4] Z (jn (ae O Z Z (fun hc39 => ?_) (fun hc39 => ?_))))))))
 refine ff ?_
 rw [vd hN hc39]
 refine ⟨.inl Z, _, (ac 36010 510 Z Z).trans (ac 36011 511 Z Z), _, Z, Z, Z⟩
 refine ak (ag (js O Z (jf [40,11,24,10,6,7,0,4] Z (aj O [504,505,506] (bin := [aE w.vars, aE w.facts, aA w.ev]) Z Z Z Z (qH (frm := frm) (w := w) h1 h2 hv hl he) Z Z Z Z Z Z (B0 := 42000) Z Z (ap ?_)))))
 refine jf [41,11,24,10,6,7,0,4] Z (jl O Z (ap ?_))
 refine jo O Z (ap ?_)
 refine bn (j2 O Z Z (aj O [500,36010,36011,503,12,42003,42004,42005] (bin := [iB c (Y (w.fact t) (ca w t g)) 1 2 3, aJ (Y (w.fact t) (ca w t g)).paths, aK (Y (w.fact t) (ca w t g)).conds, aX c.num, iW frm w 5 6 7, aE w.vars, aE w.facts, aA w.ev]) Z Z Z Z (sZ (c := c) (g := (Y (w.fact t) (ca w t g))) (frm := frm) (w := w) (t := (bu t).1) h1 h2 hl (sN hY hc39)) Z Z Z Z Z Z (B0 := 45000) Z Z (ap ?_)))
 refine jf [12,41,11,24,10,6,7,0,4] Z (bn (j4 O Z Z Z Z (js O Z (jf [49,12,41,11,24,10,6,7,0,4] Z (jn (ae O Z Z (fun hc49 => ?_) (fun hc49 => ?_)))))))
 refine an (j2 O Z Z (jf [51,50,12,41,11,24,10,6,7,0] Z (aj O [500,36010,36011,503,42003,45009,42005,507,508,509] (bin := [iB c (Y (w.fact t) (ca w t g)) 1 2 3, aJ (Y (w.fact t) (ca w t g)).paths, aK (Y (w.fact t) (ca w t g)).conds, aX c.num, aE (w.fact (bu t).1).vars, aE (w.fact (bu t).1).facts, aA (w.fact (bu t).1).ev, pB 0, xB d8, xB d9]) Z Z Z Z (hn hc39) Z Z Z Z Z Z (B0 := 53000) Z Z (ap ?_))))
 refine jf [12,41,11,24,10,6,7,0] Z (jn ?_)
 show _ ∧ _
 refine ⟨.inr Z, _, (ac 53010 510 Z Z).trans (ac 53011 511 Z Z), _, Z, Z, Z⟩
 exact absurd (show (!(Y (w.fact t) (ca w t g)).bad) = false from hc49) (by rw [show (Y (w.fact t) (ca w t g)).bad = false from hc39]; decide)
 refine ak (ah (ag (j4 O Z Z Z Z (jf [39,11,24,10,6,7,0,3,4] Z (jn (ae O Z Z (fun hc39 => ?_) (fun hc39 => ?_)))))))
 refine ff ?_
 rw [ve hY hN hc39]
 refine ⟨.inl Z, _, (ac 501 510 Z Z).trans (ac 502 511 Z Z), _, Z, Z, Z⟩
 exact absurd (show (!(ca w t g).bad) = false from hc32) (by rw [show (ca w t g).bad = false from hc39]; decide)
def fD : List Fr → D
  | [] => .nilp
  | .st t :: r => .ptr [t.d, .int .i64 0, fD r] 0
  | .lp k :: _ => .ptr [.nilp, .int .i64 (k : Nat), .nilp] 0
abbrev iF (c : Pc) (g : Gs) (w : Pw) : List (Nat × B) := [(0, iB c g 1 2 3), (1, aJ g.paths), (2, aK g.conds), (3, aX c.num), (4, aE w.vars), (5, aE w.facts), (6, aA w.ev)]
abbrev oF (c : Pc) (g : Gs) : List (Nat × B) := [(0, iB c g 10 11 3), (3, aX c.num), (10, aJ g.paths), (11, aK g.conds)]
abbrev ub (a b c : D) : B := .box [.d a, .d b, .d c]
abbrev kZ (L : Nat) (c : Pc) (frm : Int) (w : Pw) (g : Gs) (d : D) (g' : Gs) : Prop := MC Tryz.prog L 72 [.c (.pt 0 0 0), wA frm w 4 5 6, .c (.d d)] (iF c g w) (aS (.tup []) (oF c g'))
theorem qD {L : Nat} {c : Pc} {frm : Int} {w : Pw} {g g' : Gs} {d1 d2 d3 : D} (h : kZ L c frm w g (.ptr [d1, d2, d3] 0) g') : MC Tryz.prog L 72 [.c (.pt 0 0 0), wA frm w 4 5 6, .c (.pt 7 0 0)] (iF c g w ++ [(7, ub d1 d2 d3)]) (aS (.tup []) (oF c g')) :=
  MC.freeze 7 Z (.cons (.keep Z) (.cons (.keep Z) (.cons (.c (.box Z (aC Z))) .nil))) (.cons Z (.box (.cons (.keep Z) (.cons (.keep Z) (.cons (.keep Z) (.cons (.keep Z) (.cons (.keep Z) (.cons (.keep Z) (.cons (.keep Z) (.cons (.keep Z) (.cons (.keep Z) .nil)))))))))) (.cons Z .row (.cons Z .row (.cons Z .map (.cons Z .row (.cons Z .row (.cons Z .row (.skip .nil)))))))) Z h
theorem ww {L : Nat} {c : Pc} {frm : Int} {w : Pw} {g g' : Gs} {d1 d2 e1 e2 e3 : D} (h : kZ L c frm w g (.ptr [d1, d2, .ptr [e1, e2, e3] 0] 0) g') : MC Tryz.prog L 72 [.c (.pt 0 0 0), wA frm w 4 5 6, .c (.pt 7 0 0)] (iF c g w ++ [(7, .box [.d d1, .d d2, .pt 8 0 0]), (8, ub e1 e2 e3)]) (aS (.tup []) (oF c g')) :=
  MC.freeze 8 Z (.cons (.keep Z) (.cons (.keep Z) (.cons (.keep Z) .nil))) (.cons Z (.box (.cons (.keep Z) (.cons (.keep Z) (.cons (.keep Z) (.cons (.keep Z) (.cons (.keep Z) (.cons (.keep Z) (.cons (.keep Z) (.cons (.keep Z) (.cons (.keep Z) .nil)))))))))) (.cons Z .row (.cons Z .row (.cons Z .map (.cons Z .row (.cons Z .row (.cons Z .row (.cons Z (.box (.cons (.keep Z) (.cons (.keep Z) (.cons (.box Z (aC Z)) .nil)))) (.skip .nil))))))))) Z (qD h)
variable {r : List Fr}
theorem zd {g' : Gs} {s : Sm} {a : Int} {x y : Tr} (ih : kZ L c frm w g (fD (.st x :: r)) g') : MQ h1 h2 117 [wA frm w 4 5 6, .c (.pt 7 0 0), .c (.pt 8 0 0), .c (.pt 9 0 0)] (iT c g w (Tr.d (.node s a [x, y])) (fD r)) (aS (.tup []) (oT c g' (Tr.d (.node s a [x, y])) (fD r))) := by
 refine MC.shift 500 Z (MC.keep [500,503,507,508,509,510,511] (bs := [iB c g' 510 511 503, aX c.num, pB 500, xB (Tr.d (.node s a [x, y])), xB (fD r), aJ g'.paths, aK g'.conds]) Z Z (jH 17 [500,501,502,503,504,505,506,507,508,509] h1 h2 Tryz.func117 Z Z Z Z fun O hF => ?_))
 refine bK ?_
 refine ag (jx O Z (ap ?_))
 refine jn (jj O [_,_,_,_,_,_,_,_,_,_,_,_] [pn [] 0 1, pn [] 0 1, pn [] 0 0, pn [2] 0 0, pn [2,3] 0 0, pn [2,3,4] 0 0, pn (rg 2 4) 0 0, pn (rg 2 5) 0 0, pn [] 0 0, pn (rg 2 7) 0 0, pe (rg 2 8) 0, pe (rg 0 11) 1] [10,11] [_,_,_] [[], [501,502,504,505,506,15]] (ai (ka O Z Z (kw O Z Z)) (ai (ka O Z Z (kw O Z Z)) (ka O Z Z (ka O Z Z (ka O Z Z (ka O Z Z (ai (ai (bm O Z Z Z Z Z Z Z Z (by simp [Trs.d]) Z) Z) (ka O Z Z (ka O Z Z (ka O Z Z (ai (ai (aI (Eff.box O Z Z Z Z Z Z Z Z)) Z) (ai (ai (bU O [500,501,502,503,504,505,506,15] [501,502,504,505,506,15] (bin := [iB c g 1 2 3, aJ g.paths, aK g.conds, aX c.num, aE w.vars, aE w.facts, aA w.ev, ub (Tr.d x) (.int .i64 0) (fD r)]) Z Z Z Z (qD ih) Z Z Z Z Z (B0 := 17000) Z Z Z Z Z Z Z) Z) trivial)))))))))))) ?_)
 show _ ∧ _
 refine xI ?_
 refine ⟨.inr Z, _, (ac 17010 510 Z Z).trans (ac 17011 511 Z Z), _, Z, Z, Z⟩
theorem zc {g' : Gs} {s : Sm} {a : Int} {x y : Tr} (ih : kZ L c frm w g (fD (.st y :: r)) g') : MQ h1 h2 118 [wA frm w 4 5 6, .c (.pt 7 0 0), .c (.pt 8 0 0), .c (.pt 9 0 0)] (iT c g w (Tr.d (.node s a [x, y])) (fD r)) (aS (.tup []) (oT c g' (Tr.d (.node s a [x, y])) (fD r))) := by
 refine MC.shift 500 Z (MC.keep [500,503,507,508,509,510,511] (bs := [iB c g' 510 511 503, aX c.num, pB 500, xB (Tr.d (.node s a [x, y])), xB (fD r), aJ g'.paths, aK g'.conds]) Z Z (jH 17 [500,501,502,503,504,505,506,507,508,509] h1 h2 Tryz.func118 Z Z Z Z fun O hF => ?_))
 refine bK ?_
 refine ag (jx O Z (ap ?_))
 refine jn (jj O [_,_,_,_,_,_,_,_,_,_,_,_] [pn [] 0 1, pn [] 0 1, pn [] 0 0, pn [2] 0 0, pn [2,3] 0 0, pn [2,3,4] 0 0, pn (rg 2 4) 0 0, pn (rg 2 5) 0 0, pn [] 0 0, pn (rg 2 7) 0 0, pe (rg 2 8) 0, pe (rg 0 11) 1] [10,11] [_,_,_] [[], [501,502,504,505,506,15]] (ai (ka O Z Z (kw O Z Z)) (ai (ka O Z Z (kw O Z Z)) (ka O Z Z (ka O Z Z (ka O Z Z (ka O Z Z (ai (ai (bm O Z Z Z Z Z Z Z Z (by simp [Trs.d]) Z) Z) (ka O Z Z (ka O Z Z (ka O Z Z (ai (ai (aI (Eff.box O Z Z Z Z Z Z Z Z)) Z) (ai (ai (bU O [500,501,502,503,504,505,506,15] [501,502,504,505,506,15] (bin := [iB c g 1 2 3, aJ g.paths, aK g.conds, aX c.num, aE w.vars, aE w.facts, aA w.ev, ub (Tr.d y) (.int .i64 0) (fD r)]) Z Z Z Z (qD ih) Z Z Z Z Z (B0 := 17000) Z Z Z Z Z Z Z) Z) trivial)))))))))))) ?_)
 show _ ∧ _
 refine xI ?_
 refine ⟨.inr Z, _, (ac 17010 510 Z Z).trans (ac 17011 511 Z Z), _, Z, Z, Z⟩
set_option maxHeartbeats 8000000
theorem xO : (Tryz.prog).underlying 72 = some (.map 2 2) := by kernel_rfl
theorem uK : (Tryz.prog).underlying 2 = some (.int .i64) := by kernel_rfl
theorem zK : ((Tryz.prog).info? 2).bind (·.zero) = some (D.val (.int .i64 0)) := by kernel_rfl
abbrev bC (E : Pe) (SS : List (List Tm)) (bd lo be : D) (nm : List (Int × D)) : Pc := ⟨e6 E.post, .slc 1 (SS.map fun f => [e6 f]), bd, lo, be, nm⟩
structure PcOk (E : Pe) (b : List Sm) (SS : List (List Tm)) (nm : List (Int × D)) : Prop where
  starts : ∀ k, k < b.length → (b.getD k default).kind = 8 → ba b k + 1 < SS.length ∧ SS.getD (ba b k + 1) default = (b.getD k default).facts
  num : ∀ k : Nat, k < b.length → (b.getD k default).kind = 8 → jt nm (k : Nat) = some (.int .i64 (ba b k : Nat))
structure FX where
  n : Nat
  r : List Fr
  w : Pw
  g : Gs
  c : Nat
structure FI (E : Pe) (b : List Sm) (frm : Int) (N L : Nat) (G : Gs) (x : FX) : Prop where
  pl : ∃ fl i, Pl b fl i x.r
  lt : az x.r < x.n
  le : x.n ≤ N
  w : WOk x.n x.w
  g : GOk x.c x.g
  bd : x.c + mf (az x.r) ≤ L
  eq : dx bV E frm x.n x.r x.w x.g = G
def u9 (w : Pw) : Tm := if w.sym = 10 then ⟨0, []⟩ else gz w.sym
abbrev zw (w : Pw) : Pw := ⟨w.vars, w.facts, w.ev, min (w.sym + 1) 10⟩
abbrev ua (w : Pw) (g : Gs) : Gs := g.flag (decide (w.sym = 10))
theorem wV {L : Nat} (h1 : 4096 ≤ L) (h2 : L ≤ 1073741824) {c : Pc} {g : Gs} {frm : Int} {w : Pw} (hs : w.sym ≤ 10) : MC Tryz.prog L 114 [.c (.pt 0 0 0), .c (.pt 4 0 0)] (iH c g frm w) (aS (cT (u9 w)) (iH c (ua w g) frm (zw w))) := by
 by_cases h : w.sym = 10
 have e : zw w = w := by obtain ⟨a, b, c, d⟩ := w; simp only at h; subst h; rfl
 rw [u9, if_pos h, e, ua, decide_eq_true h, iE]
 exact oW (fun h => RA.zero h) (wW h1 h2 h)
 have e : min (w.sym + 1) 10 = w.sym + 1 := by omega
 rw [u9, if_neg h, zw, e, ua, decide_eq_false h, fC]
 exact ze h1 h2 (by omega)
theorem wu {la : cF} {s : Sm} {w : Pw} {g : Gs} (h : s.kind = 2) : bo la s w g = (w.set s.var.toNat (aD s.sum w.vars).1, aR w s.sum g) := if_pos h
theorem wt {la : cF} {s : Sm} {w : Pw} {g : Gs} (h : s.kind = 3) (hs : w.sym ≤ 10) : bo la s w g = (⟨w.vars.set s.var.toNat (u9 w), w.facts, w.ev, min (w.sym + 1) 10⟩, ua w (cd la w s.index g)) := by
 rw [bo, if_neg (by omega), if_pos h]
 by_cases h0 : w.sym = 10
 rw [if_pos h0, u9, if_pos h0, ua, decide_eq_true h0]
 obtain ⟨a, b, c, d⟩ := w; simp only at h0; subst h0; rfl
 rw [if_neg h0, u9, if_neg h0, ua, decide_eq_false h0, fC, nf, show min (w.sym + 1) 10 = w.sym + 1 by omega]
theorem wr {la : cF} {s : Sm} {w : Pw} {g : Gs} (h : s.kind = 4) : bo la s w g = (w, cd la w s.index g) := by
 rw [bo, if_neg (by omega), if_neg (by omega), if_pos h]
theorem wq {la : cF} {s : Sm} {w : Pw} {g : Gs} (h : s.kind = 5) : bo la s w g = (⟨w.vars, w.facts, w.ev ++ [s.event], w.sym⟩, g) := by
 rw [bo, if_neg (by omega), if_neg (by omega), if_neg (by omega), if_pos h]
theorem wo {la : cF} {s : Sm} {w : Pw} {g : Gs} (h : s.kind = 6) : bo la s w g = (w.fact (aD s.sum w.vars).1, (da w (aD s.sum w.vars).1 (aR w s.sum g)).flag (w.fact (aD s.sum w.vars).1).long) := by
 rw [bo, if_neg (by omega), if_neg (by omega), if_neg (by omega), if_neg (by omega), if_pos h, da, dN, show (!true) = false from Z, fC]
theorem wv {la : cF} {s : Sm} {w : Pw} {g : Gs} (h2 : ¬ s.kind = 2) (h3 : ¬ s.kind = 3) (h4 : ¬ s.kind = 4) (h5 : ¬ s.kind = 5) (h6 : ¬ s.kind = 6) : bo la s w g = (w, g) := by
 rw [bo, if_neg h2, if_neg h3, if_neg h4, if_neg h5, if_neg h6]
theorem wZ {L : Nat} (h1 : 4096 ≤ L) (h2 : L ≤ 1073741824) {E : Pe} {b : List Sm} {SS : List (List Tm)} {bd lo be : D} {nm : List (Int × D)} {frm : Int} {w0 : Pw} {g0 G : Gs} {r0 : List Fr} {N c0 : Nat} (hE : EOk E b) (hbl : b.length ≤ 1000) (hP : PcOk E b SS nm)
  (ih : ∀ n, n < N → ∀ {r : List Fr} {w : Pw} {g : Gs} {c : Nat}, (∃ fl i, Pl b fl i r) → az r < n → WOk n w → GOk c g → c + mf (az r) ≤ L → kZ L (bC E SS bd lo be nm) frm w g (fD r) (dx bV E frm n r w g))
  (hi0 : FI E b frm N L G ⟨N, r0, w0, g0, c0⟩) : kZ L (bC E SS bd lo be nm) frm w0 g0 (fD r0) G := by
 refine MC.shift 500 Z (MC.keep [500,503,510,511] (bs := [iB (bC E SS bd lo be nm) G 510 511 503, aX nm, aJ G.paths, aK G.conds]) Z Z (jH 218 [500,501,502,503,504,505,506] h1 h2 Tryz.func72 Z Z Z Z fun O hF => ?_))
 refine bK ?_
 refine ag (jx O Z (ap ?_))
 refine jf [3,1,2] Z (jx O Z (ap ?_))
 refine jn (aq (aH (X := FX) (fun x => ⟨[(2, .c (.d (fD x.r))), (3, .c (.pt 3 0 0)), (4, .c (.pt 4 0 0))], [(3, pB 500), (4, iW frm x.w 904 905 906), (500, iB (bC E SS bd lo be nm) x.g 901 902 503), (503, aX nm), (901, aJ x.g.paths), (902, aK x.g.conds), (904, aE x.w.vars), (905, aE x.w.facts), (906, aA x.w.ev)]⟩) (fun x => FI E b frm N L G x) (fun x => x.n) ⟨N, r0, w0, g0, c0⟩ (((((((am [3,4,500,503,501,502,504,505,506] (e' := [(2, _), (3, _), (4, _)]) Z Z ⟨Z, Z, Z, trivial⟩ Z).trans (ac 501 901 Z Z)).trans (ac 502 902 Z Z)).trans (ac 504 904 Z Z)).trans (ac 505 905 Z Z)).trans (ac 506 906 Z Z)).trans (Ent.to ⟨Z, Z, Z, trivial⟩ Z)) ?_ (fun x hi => ?_)))
 exact hi0
 obtain ⟨n, r, w, g, cc⟩ := x
 obtain ⟨⟨fl, i0, hp⟩, hlt, hle, hw, hg, hbd, hG⟩ := hi
 dsimp only at hp hlt hle hw hg hbd hG
 refine lm (Ent.to (e' := [(2, .c (.d (fD r))), (3, .c (.pt 3 0 0)), (4, .c (.pt 4 0 0))]) (H' := [(3, pB 500), (4, iW frm w 904 905 906), (500, iB (bC E SS bd lo be nm) g 901 902 503), (503, aX nm), (901, aJ g.paths), (902, aK g.conds), (904, aE w.vars), (905, aE w.facts), (906, aA w.ev)]) ⟨Z, Z, Z, trivial⟩ Z) ?_
 obtain ⟨n, rfl⟩ : ∃ m, n = m + 1 := ⟨n - 1, by omega⟩
 have hge := pM (m := az r)
 have hgc := hg.conds
 have hgp := hg.paths
 have hva := nr hw.ctx hw.vars
 have hv4 := hw.vars
 have hfa := hw.facts
 have hev := hw.ev
 have hsy := hw.sym
 refine ah (ag (j4 O Z Z Z Z (j2 O Z Z (jf [15,2,3,4] Z (jn (ae O Z Z (fun hc15 => ?_) (fun hc15 => ?_)))))))
 refine ak ?_
 cases hp with
 | nil =>
  have hb : g.bad = false := by simpa using hc15
  refine aq (ah (ag (j2 O Z Z (jn (ae O Z Z (fun hc17 => ?_) (fun hc17 => ?_))))))
  refine ah (jj O [_,_,_,_,_,_,_,_,_] [pn [] 0 0, pn [0] 0 0, pn [0,1] 0 0, pn [] 0 0, pn [3] 0 0, pn [3,4] 0 0, pn [3,4,5] 0 0, pn (rg 3 4) 0 0, pe (rg 0 8) 0] [8] [_,_] [[901,902]] (ka O Z Z (ka O Z Z (ka O Z Z (ka O Z Z (ka O Z Z (ka O Z Z (ka O Z Z (ka O Z Z (ai (ai (bU O [500,901,902,503,4,904,905,906] [901,902] (bin := [iB (bC E SS bd lo be nm) g 1 2 3, aJ g.paths, aK g.conds, aX nm, iW frm w 5 6 7, aE w.vars, aE w.facts, aA w.ev]) Z Z Z Z (sG (c := (bC E SS bd lo be nm)) (g := g) (frm := frm) (w := w) (to := -1) (fs := E.post) h1 h2 hw.ctx hw.vars hE.post.1 (by have := hE.post.2; omega) (by omega)) Z Z Z Z Z (B0 := 27000) Z Z Z Z Z Z Z) Z) trivial))))))))) ?_)
  refine jw [17,16,15,2,3,4] Z (bK ?_)
  refine ff ?_
  rw [← hG, el hb]
  refine ⟨.inl Z, _, (ac 27009 510 Z Z).trans (ac 27008 511 Z Z), _, Z, Z, Z⟩
  cases hc17
 | @lp i k r hi hs hk h8 =>
  have hb : g.bad = false := by simpa using hc15
  obtain ⟨hs1, hs2⟩ := hP.starts _ hk h8
  have hf := fO (hE.st _ hk)
  have hlf := hE.lf _ hk h8
  have hnk := fP (b := b) (k := k)
  refine aq (ah (ag (j2 O Z Z (jn (ae O Z Z (fun hc17 => ?_) (fun hc17 => ?_))))))
  cases hc17
  refine ak (ah (ag (j4 O Z Z Z Z (js O Z (jf [31,17,16,15,2,3,4] Z (jn (ae O Z Z (fun hc31 => ?_) (fun hc31 => ?_))))))))
  refine ah (jj O [_,_,_,_,_,_,_,_,_,_,_,_,_,_,_,_,_,_,_,_] [pn [] 0 0, pn [0] 0 0, pn [0,1] 0 0, pn [] 0 0, pn [3] 0 0, pn [3,4] 0 0, pn [3,4,5] 0 0, pn [] 0 0, pn [7] 0 0, pn [7,8] 0 0, pn [7,8,9] 0 0, pn (rg 7 4) 0 0, pn [] 0 0, pn [12] 0 0, pn [12,13] 0 0, pn [12,13,14] 0 0, pn (rg 12 4) 0 0, pn (rg 7 10) 0 0, pn (rg 7 11) 0 0, pe (rg 0 19) 0] [19] [_,_] [[901,902]] (ka O Z Z (ka O Z Z (ka O Z Z (ka O Z Z (ka O Z Z (ka O Z Z (ka O Z Z (ka O Z Z (ka O Z Z (ka O Z Z (ka O Z Z (ka O Z Z (ka O Z Z (ka O Z Z (ka O Z Z (ka O Z Z (ai (ai ((vF O Z).cast (v' := eI ((ba b k + 1 : Nat) : Int)) (congrArg eI (by omega))) Z) (ai (ai ((aO O Z Z Z Z Z Z Z Z (cU hs1)).cast (v' := ptr [e6 (b.getD k default).facts]) (by rw [hs2])) Z) (ka O Z Z (ai (ai (bU O [500,901,902,503,4,904,905,906] [901,902] (bin := [iB (bC E SS bd lo be nm) g 1 2 3, aJ g.paths, aK g.conds, aX nm, iW frm w 5 6 7, aE w.vars, aE w.facts, aA w.ev]) Z Z Z Z (sG (c := (bC E SS bd lo be nm)) (g := g) (frm := frm) (w := w) (to := (ba b k : Nat)) (fs := (b.getD k default).facts) h1 h2 hw.ctx hw.vars hf.1 (by have := hf.2; omega) (by omega)) Z Z Z Z Z (B0 := 52000) Z Z Z Z Z Z Z) Z) trivial)))))))))))))))))))) ?_)
  refine jw [31,17,16,15,2,3,4] Z (bK ?_)
  refine ff ?_
  rw [← hG, gK hb, hlf]
  refine ⟨.inl Z, _, (ac 52009 510 Z Z).trans (ac 52008 511 Z Z), _, Z, Z, Z⟩
  cases hc31
 | @leaf i k r hi hs hk h0 h =>
  have hb : g.bad = false := by simpa using hc15
  have hst := hE.st _ hk
  have htm := ik hst
  have hne := fT h0
  generalize hs0 : b.getD k default = s at hst htm hG hlt hbd hge hne ⊢
  have hbl2 := lQ (m := az r)
  simp only [az, Fr.nodes, Tr.nodes, Trs.nodes, Nat.add_zero, Nat.add_comm 1] at hlt hbd hge
  rw [dB hb] at hG
  refine aq (ah (ag (j2 O Z Z (jn (ae O Z Z (fun hc17 => ?_) (fun hc17 => ?_))))))
  cases hc17
  refine ak (ah (ag (j4 O Z Z Z Z (js O Z (jf [31,17,16,15,2,3,4] Z (jn (ae O Z Z (fun hc31 => ?_) (fun hc31 => ?_))))))))
  cases hc31
  refine ak (ah (qw O [_,_,_,_,_,_,_,_,_,_,_,_] [pn [] 0 1, pn [0] 0 1, pn [0,1] 0 1, pn [0,1,2] 0 1, pn [] 0 2, pn [4] 0 2, pn [4,5] 0 2, pn [4,5,6] 0 2, pn [] 0 1, pe [] 0, pe [0,1,2,3,8,9] 1, pe [0,1,2,3,4,5,6,7,8,9,10] 2] [9,10,11] 8 6 (.box [.d .nilp]) [_,_] [_,_] [] (ai (kf O Z Z Z (kg O Z Z Z)) (ai (kf O Z Z Z (kg O Z Z Z)) (ai (kf O Z Z Z (kg O Z Z Z)) (ai (kf O Z Z Z (kg O Z Z Z)) (ai (kf O Z Z Z (kf O Z Z Z (kg O Z Z Z))) (ai (kf O Z Z Z (kf O Z Z Z (kg O Z Z Z))) (ai (kf O Z Z Z (kf O Z Z Z (kg O Z Z Z))) (ai (kf O Z Z Z (kf O Z Z Z (kg O Z Z Z))) (ai (ai (ai (aI (Eff.alloc O Z Z Z Z Z Z)) Z) (ai (aI (Eff.alloc O Z Z Z Z Z Z)) Z)) (ai (ai (aF (aI (Eff.alloc O Z Z Z Z Z Z)) (aI (Eff.alloc O Z Z Z Z Z Z))) Z) (ai (ai (aF trivial (aI (eS O Z Z Z))) Z) (ai (ai (aF trivial (aI (eS O Z Z Z))) Z) trivial)))))))))))) ?_))
  refine jw [7,6,31,17,16,15,2,3,4] Z (bK ?_)
  refine ah (ag (j4 O Z Z Z Z (js O Z (jf [64,7,6,31,17,16,15,2,3,4] Z (jn ?_)))))
  obtain ⟨d, ed⟩ : ∃ d, d = bo bV s w g := ⟨_, rfl⟩
  refine gm ⟨[(3, .c (.pt 3 0 0)), (4, .c (.pt 4 0 0)), (7, .c (.pt 7 0 0))], [(3, pB 500), (7, xB (fD r)), (4, iW frm d.1 904 905 906), (500, iB (bC E SS bd lo be nm) d.2 901 902 503), (503, aX nm), (901, aJ d.2.paths), (902, aK d.2.conds), (904, aE d.1.vars), (905, aE d.1.facts), (906, aA d.1.ev)]⟩ ?_ ?_
  refine aq (ag (j2 O Z Z (jn (ae O Z Z (fun hc65 => ?_) (fun hc65 => ?_)))))
  exact absurd (bz hc65) (by omega)
  refine ag (j2 O Z Z (jn (ae O Z Z (fun hc84 => ?_) (fun hc84 => ?_))))
  have hsv2 := pC hst (.inl (bz hc84))
  refine fc O [_,_,_,_,_,_,_,_,_,_,_,_,_,_,_,_,_,_] [pn [] 0 1, pn [0] 0 1, pn [] 0 1, pn [2] 0 1, pn [2,3] 0 1, pn [2,3,4] 0 1, pn (rg 2 4) 0 1, pn [] 0 0, pn [7] 0 0, pn [7,8] 0 0, pn [] 0 0, pn [10] 0 0, pn [10,11] 0 0, pn [10,11,12] 0 0, pn (rg 10 4) 0 0, pe (rg 7 8) 0, pn (rg 0 16) 1 1, pe (rg 0 17) 1] [15,17] [_, [(3, pB 500), (6, xB (Tr.d (.node s (k : Nat) []))), (7, xB (fD r)), (500, iB (bC E SS bd lo be nm) (aR w s.sum g) 901 902 503), (901, aJ (aR w s.sum g).paths), (902, aK (aR w s.sum g).conds), (503, aX nm), (4, iW frm w 904 905 906), (904, aE w.vars), (905, aE w.facts), (906, aA w.ev)], _] (ai (kc O Z (V O Z)) (ai (kc O Z (V O Z)) (ai (kc O Z (V O Z)) (ai (kc O Z (V O Z)) (ai (kc O Z (V O Z)) (ai (kc O Z (V O Z)) (ai (kc O Z (V O Z)) (kc O Z (kc O Z (kc O Z (kc O Z (kc O Z (kc O Z (kc O Z (kc O Z (ai (bO O [500,901,902,503,4,904,905,906] (bin := [iB (bC E SS bd lo be nm) g 1 2 3, aJ g.paths, aK g.conds, aX nm, iW frm w 5 6 7, aE w.vars, aE w.facts, aA w.ev]) Z Z Z Z (kB (c := (bC E SS bd lo be nm)) (frm := frm) (w := w) (g := g) (t := s.sum) h1 h2 htm.1.1 hva (by have := htm.1.2; omega)) Z Z Z Z Z (B0 := 102000) Z Z Z Z Z Z) (ai (vI O Z Z) (ai (cu (ex := Tm.cells (w.vars.getD s.var.toNat default)) (xs' := (w.vars.set s.var.toNat (aD s.sum w.vars).1).map Tm.cells) O Z Z Z Z Z Z Z Z Z Z Z Z Z Z Z (xL (by omega) (by omega)) (xE (v := (aD s.sum w.vars).1) (by omega) Z) Z) trivial)))))))))))))))))) ?_
  rw [ed, wu (bz hc84)]
  refine vL ?_
  exact ⟨Z, (am [3,7,4,500,503,901,902,904,905,906] (e' := [(3, _), (4, _), (7, _)]) Z Z ⟨Z, Z, Z, trivial⟩ Z).trans (Ent.to ⟨Z, Z, Z, trivial⟩ (by simp only [Pw.set, iW, List.length_set]; rfl))⟩
  refine ag (j2 O Z Z (jn (ae O Z Z (fun hc103 => ?_) (fun hc103 => ?_))))
  refine ah (jj O [_,_,_,_,_,_,_,_,_,_,_,_,_] [pn [] 0 1, pn [0] 0 1, pn [0,1] 0 1, pn [] 0 0, pn [3] 0 0, pn [3,4] 0 0, pn [] 0 0, pn [6] 0 0, pn [6,7] 0 0, pn [6,7,8] 0 0, pn (rg 6 4) 0 0, pe (rg 3 8) 0, pe (rg 0 12) 1] [11,12] [_, [(3, pB 500), (6, xB (Tr.d (.node s (k : Nat) []))), (7, xB (fD r)), (500, iB (bC E SS bd lo be nm) (aR w s.index g) 901 902 503), (901, aJ (aR w s.index g).paths), (902, aK (aR w s.index g).conds), (503, aX nm), (4, iW frm w 904 905 906), (904, aE w.vars), (905, aE w.facts), (906, aA w.ev)], [(3, pB 500), (6, xB (Tr.d (.node s (k : Nat) []))), (7, xB (fD r)), (500, iB (bC E SS bd lo be nm) (cd bV w s.index g) 901 118008 503), (901, aJ (cd bV w s.index g).paths), (503, aX nm), (4, iW frm w 904 905 906), (904, aE w.vars), (905, aE w.facts), (906, aA w.ev), (118008, aK (cd bV w s.index g).conds)]] [[], [902]] (ai (ka O Z Z (kw O Z Z)) (ai (ka O Z Z (kw O Z Z)) (ai (ka O Z Z (kw O Z Z)) (ka O Z Z (ka O Z Z (ka O Z Z (ka O Z Z (ka O Z Z (ka O Z Z (ka O Z Z (ka O Z Z (ai (ai (aI (bO O [500,901,902,503,4,904,905,906] (bin := [iB (bC E SS bd lo be nm) g 1 2 3, aJ g.paths, aK g.conds, aX nm, iW frm w 5 6 7, aE w.vars, aE w.facts, aA w.ev]) Z Z Z Z (kB (c := (bC E SS bd lo be nm)) (frm := frm) (w := w) (g := g) (t := s.index) h1 h2 htm.2.1 hva (by have := htm.2.2; omega)) Z Z Z Z Z (B0 := 117000) Z Z Z Z Z Z)) Z) (ai (ai (bU O [500,901,902,503,4,904,905,906] [902] (bin := [iB (bC E SS bd lo be nm) (aR w s.index g) 1 2 3, aJ (aR w s.index g).paths, aK (aR w s.index g).conds, aX nm, iW frm w 5 6 7, aE w.vars, aE w.facts, aA w.ev]) Z Z Z Z (vx (c := (bC E SS bd lo be nm)) (frm := frm) (w := w) (g := (aR w s.index g)) (t := (aD s.index w.vars).1) h1 h2 dN (show g.conds.length + 2 ≤ L by omega)) Z Z Z Z Z (B0 := 118000) Z Z Z Z Z Z Z) Z) trivial))))))))))))) ?_)
  refine jw [103,104,84,85,65,66,64,7,6,31,17,16,15,2,3,4] Z (bK ?_)
  have hsv2 := pC hst (.inr (bz hc103))
  refine fc O [_,_,_,_,_,_,_,_,_,_,_,_,_] [pn [] 0 1, pn [0] 0 1, pn [] 0 1, pn [2] 0 1, pn [2,3] 0 1, pn [2,3,4] 0 1, pn (rg 2 4) 0 1, pn [] 0 0, pn [7] 0 0, pn [7,8] 0 0, pe [7,8,9] 0, pn (rg 0 11) 1 1, pe (rg 0 12) 1] [10,12] [_, [(3, pB 500), (6, xB (Tr.d (.node s (k : Nat) []))), (7, xB (fD r)), (500, iB (bC E SS bd lo be nm) (ua w (cd bV w s.index g)) 901 118008 503), (901, aJ (ua w (cd bV w s.index g)).paths), (118008, aK (ua w (cd bV w s.index g)).conds), (503, aX nm), (4, iW frm (zw w) 904 905 906), (904, aE w.vars), (905, aE w.facts), (906, aA w.ev)], _] (ai (kc O Z (V O Z)) (ai (kc O Z (V O Z)) (ai (kc O Z (V O Z)) (ai (kc O Z (V O Z)) (ai (kc O Z (V O Z)) (ai (kc O Z (V O Z)) (ai (kc O Z (V O Z)) (kc O Z (kc O Z (kc O Z (ai (bO O [500,901,118008,503,4,904,905,906] (bin := [iB (bC E SS bd lo be nm) (cd bV w s.index g) 1 2 3, aJ (cd bV w s.index g).paths, aK (cd bV w s.index g).conds, aX nm, iW frm w 5 6 7, aE w.vars, aE w.facts, aA w.ev]) Z Z Z Z (wV (c := (bC E SS bd lo be nm)) (frm := frm) (w := w) (g := (cd bV w s.index g)) h1 h2 hsy) Z Z Z Z Z (B0 := 129000) Z Z Z Z Z Z) (ai (vI O Z Z) (ai (cu (ex := Tm.cells (w.vars.getD s.var.toNat default)) (xs' := (w.vars.set s.var.toNat (u9 w)).map Tm.cells) O Z Z Z Z Z Z Z Z Z Z Z Z Z Z Z (xL (by omega) (by omega)) (xE (v := (u9 w)) (by omega) Z) Z) trivial))))))))))))) ?_
  rw [ed, wt (bz hc103) hw.sym]
  refine vL ?_
  exact ⟨Z, ((am [3,7,4,500,503,901,118008,904,905,906] (e' := [(3, _), (4, _), (7, _)]) Z Z ⟨Z, Z, Z, trivial⟩ Z).trans (ac 118008 902 Z Z)).trans (Ent.to ⟨Z, Z, Z, trivial⟩ (by simp only [Pw.set, iW, List.length_set]; rfl))⟩
  refine ag (j2 O Z Z (jn (ae O Z Z (fun hc130 => ?_) (fun hc130 => ?_))))
  refine jj O [_,_,_,_,_,_,_,_,_,_,_,_,_] [pn [] 0 1, pn [0] 0 1, pn [0,1] 0 1, pn [] 0 0, pn [3] 0 0, pn [3,4] 0 0, pn [] 0 0, pn [6] 0 0, pn [6,7] 0 0, pn [6,7,8] 0 0, pn (rg 6 4) 0 0, pe (rg 3 8) 0, pe (rg 0 12) 1] [11,12] [_, [(3, pB 500), (6, xB (Tr.d (.node s (k : Nat) []))), (7, xB (fD r)), (500, iB (bC E SS bd lo be nm) (aR w s.index g) 901 902 503), (901, aJ (aR w s.index g).paths), (902, aK (aR w s.index g).conds), (503, aX nm), (4, iW frm w 904 905 906), (904, aE w.vars), (905, aE w.facts), (906, aA w.ev)], [(3, pB 500), (6, xB (Tr.d (.node s (k : Nat) []))), (7, xB (fD r)), (500, iB (bC E SS bd lo be nm) (cd bV w s.index g) 901 145008 503), (901, aJ (cd bV w s.index g).paths), (503, aX nm), (4, iW frm w 904 905 906), (904, aE w.vars), (905, aE w.facts), (906, aA w.ev), (145008, aK (cd bV w s.index g).conds)]] [[], [902]] (ai (ka O Z Z (kw O Z Z)) (ai (ka O Z Z (kw O Z Z)) (ai (ka O Z Z (kw O Z Z)) (ka O Z Z (ka O Z Z (ka O Z Z (ka O Z Z (ka O Z Z (ka O Z Z (ka O Z Z (ka O Z Z (ai (ai (aI (bO O [500,901,902,503,4,904,905,906] (bin := [iB (bC E SS bd lo be nm) g 1 2 3, aJ g.paths, aK g.conds, aX nm, iW frm w 5 6 7, aE w.vars, aE w.facts, aA w.ev]) Z Z Z Z (kB (c := (bC E SS bd lo be nm)) (frm := frm) (w := w) (g := g) (t := s.index) h1 h2 htm.2.1 hva (by have := htm.2.2; omega)) Z Z Z Z Z (B0 := 144000) Z Z Z Z Z Z)) Z) (ai (ai (bU O [500,901,902,503,4,904,905,906] [902] (bin := [iB (bC E SS bd lo be nm) (aR w s.index g) 1 2 3, aJ (aR w s.index g).paths, aK (aR w s.index g).conds, aX nm, iW frm w 5 6 7, aE w.vars, aE w.facts, aA w.ev]) Z Z Z Z (vx (c := (bC E SS bd lo be nm)) (frm := frm) (w := w) (g := (aR w s.index g)) (t := (aD s.index w.vars).1) h1 h2 dN (show g.conds.length + 2 ≤ L by omega)) Z Z Z Z Z (B0 := 145000) Z Z Z Z Z Z Z) Z) trivial))))))))))))) ?_
  rw [ed, wr (bz hc130)]
  refine vL ?_
  exact ⟨Z, ((am [3,7,4,500,503,901,145008,904,905,906] (e' := [(3, _), (4, _), (7, _)]) Z Z ⟨Z, Z, Z, trivial⟩ Z).trans (ac 145008 902 Z Z)).trans (Ent.to ⟨Z, Z, Z, trivial⟩ Z)⟩
  refine ag (j2 O Z Z (jn (ae O Z Z (fun hc145 => ?_) (fun hc145 => ?_))))
  refine jj O [_,_,_,_,_,_,_,_,_,_,_] [pn [] 0 1, pn [0] 0 1, pn [] 0 0, pn [2] 0 0, pn [2,3] 0 0, pn [2,3,4] 0 0, pn (rg 2 4) 0 0, pe (rg 2 5) 0, pe (rg 0 8) 1, pn (rg 0 9) 2 2, pe (rg 0 10) 2] [7,8,10] [_,_,_,_] [[], [906], []] (ai (ka O Z Z (kw O Z Z)) (ai (ka O Z Z (kw O Z Z)) (ka O Z Z (ka O Z Z (ka O Z Z (ka O Z Z (ka O Z Z (ai (ai (aI (dD O Z Z Z Z Z Z Z Z Z Z Z Z Z Z)) Z) (ai (ai (cm (own := true) (xs := w.ev.map (fun n => [D.int .i64 n])) (ys := [[.int .i64 s.event]]) (zs := (w.ev ++ [s.event]).map (fun n => [D.int .i64 n])) (n := (w.ev ++ [s.event]).length) O Z Z Z Z Z Z Z Z Z Z Z Z Z Z Z Z (.row Z (cw _).symm) (.whole Z Z (.inl (by simp [Scal, D.scalar]))) (by simp) Z (by simp; omega) (by simp; omega) (by simp) (by simp) Z) Z) (ka O Z Z (ai (ai (aI (eS O Z Z Z)) Z) trivial))))))))))) ?_
  rw [ed, wq (bz hc145)]
  refine vL ?_
  exact ⟨Z, ((am [3,7,4,500,503,901,902,904,905,155] (e' := [(3, _), (4, _), (7, _)]) Z Z ⟨Z, Z, Z, trivial⟩ Z).trans (ac 155 906 Z Z)).trans (Ent.to ⟨Z, Z, Z, trivial⟩ Z)⟩
  refine ag (j2 O Z Z (jn (ae O Z Z (fun hc157 => ?_) (fun hc157 => ?_))))
  refine ah (qw O [_,_,_,_,_,_,_,_,_,_,_] [pn [] 0 0, pn [0] 0 0, pn [0,1] 0 0, pn [] 0 0, pn [3] 0 0, pn [3,4] 0 0, pn [3,4,5] 0 0, pn [3,4,5,6] 0 0, pe [0,1,2,3,4,5,6,7] 0, pn [] 0 1, pe [0,1,2,3,4,5,6,7,8,9] 1] [8,10] 9 8 (.box [.d (.int .i64 0), .d .nils]) [_, [(3, pB 500), (6, xB (Tr.d (.node s (k : Nat) []))), (7, xB (fD r)), (500, iB (bC E SS bd lo be nm) (aR w s.sum g) 901 902 503), (901, aJ (aR w s.sum g).paths), (902, aK (aR w s.sum g).conds), (503, aX nm), (4, iW frm w 904 905 906), (904, aE w.vars), (905, aE w.facts), (906, aA w.ev)]] [_] [] (kf O Z Z Z (kf O Z Z Z (kf O Z Z Z (kf O Z Z Z (kf O Z Z Z (kf O Z Z Z (kf O Z Z Z (kf O Z Z Z (ai (ai (aF (aI (bO O [500,901,902,503,4,904,905,906] (bin := [iB (bC E SS bd lo be nm) g 1 2 3, aJ g.paths, aK g.conds, aX nm, iW frm w 5 6 7, aE w.vars, aE w.facts, aA w.ev]) Z Z Z Z (kB (c := (bC E SS bd lo be nm)) (frm := frm) (w := w) (g := g) (t := s.sum) h1 h2 htm.1.1 hva (by have := htm.1.2; omega)) Z Z Z Z Z (B0 := 168000) Z Z Z Z Z Z)) (aI (bO O [500,901,902,503,4,904,905,906] (bin := [iB (bC E SS bd lo be nm) g 1 2 3, aJ g.paths, aK g.conds, aX nm, iW frm w 5 6 7, aE w.vars, aE w.facts, aA w.ev]) Z Z Z Z (kB (c := (bC E SS bd lo be nm)) (frm := frm) (w := w) (g := g) (t := s.sum) h1 h2 htm.1.1 hva (by have := htm.1.2; omega)) Z Z Z Z Z (B0 := 168000) Z Z Z Z Z Z))) Z) (ai (ai (ai (aI (Eff.alloc O Z Z Z Z Z Z)) Z) (ai (aI (Eff.alloc O Z Z Z Z Z Z)) Z)) (ai (ai (aF trivial (aI (eS O Z Z Z))) Z) trivial))))))))))) ?_)
  refine jw [8,157,158,145,146,130,131,103,104,84,85,65,66,64,7,6,31,17,16,15,2,3,4] Z (bK ?_)
  refine ah (jj O [_,_,_,_,_] [pn [] 0 0, pn [0] 0 0, pn [0,1] 0 0, pn [] 0 0, pe (rg 0 4) 0] [4] [_,_] [[902]] (ka O Z Z (ka O Z Z (ka O Z Z (ka O Z Z (ai (ai (bU O [500,901,902,503,4,904,905,906] [902] (bin := [iB (bC E SS bd lo be nm) (aR w s.sum g) 1 2 3, aJ (aR w s.sum g).paths, aK (aR w s.sum g).conds, aX nm, iW frm w 5 6 7, aE w.vars, aE w.facts, aA w.ev]) Z Z Z Z (qJ (c := (bC E SS bd lo be nm)) (frm := frm) (w := w) (g := (aR w s.sum g)) (t := (aD s.sum w.vars).1) h1 h2 (show g.conds.length + 1 ≤ L by omega)) Z Z Z Z Z (B0 := 173000) Z Z Z Z Z Z Z) Z) trivial))))) ?_)
  refine jw [8,157,158,145,146,130,131,103,104,84,85,65,66,64,7,6,31,17,16,15,2,3,4] Z (bK ?_)
  refine jj O [_,_,_,_,_] [pn [] 0 0, pn [0] 0 0, pn [0,1] 0 0, pn [] 0 0, pe (rg 0 4) 0] [4] [_,_] [[905]] (ka O Z Z (ka O Z Z (ka O Z Z (ka O Z Z (ai (ai (bU O [500,901,173008,503,4,904,905,906] [905] (bin := [iB (bC E SS bd lo be nm) (da w (aD s.sum w.vars).1 (aR w s.sum g)) 1 2 3, aJ (da w (aD s.sum w.vars).1 (aR w s.sum g)).paths, aK (da w (aD s.sum w.vars).1 (aR w s.sum g)).conds, aX nm, iW frm w 5 6 7, aE w.vars, aE w.facts, aA w.ev]) Z Z Z Z (qI (c := (bC E SS bd lo be nm)) (frm := frm) (w := w) (g := da w (aD s.sum w.vars).1 (aR w s.sum g)) (t := (aD s.sum w.vars).1) h1 h2 (by omega)) Z Z Z Z Z (B0 := 178000) Z Z Z Z Z Z Z) Z) trivial))))) ?_
  rw [ed, wo (bz hc157)]
  refine vL ?_
  exact ⟨Z, (((am [3,7,4,500,503,901,173008,904,178009,906] (e' := [(3, _), (4, _), (7, _)]) Z Z ⟨Z, Z, Z, trivial⟩ Z).trans (ac 173008 902 Z Z)).trans (ac 178009 905 Z Z)).trans (Ent.to ⟨Z, Z, Z, trivial⟩ Z)⟩
  refine ag (j2 O Z Z (jn (ae O Z Z (fun hc178 => ?_) (fun hc178 => ?_))))
  exact absurd (bz hc178) (by omega)
  refine ag (j2 O Z Z (jn (ae O Z Z (fun hc196 => ?_) (fun hc196 => ?_))))
  exact absurd (bz hc196) (by omega)
  refine ak ?_
  rw [ed, wv (cp hc84) (cp hc103) (cp hc130) (cp hc145) (cp hc157)]
  refine vL ?_
  exact ⟨Z, (am [3,7,4,500,503,901,902,904,905,906] (e' := [(3, _), (4, _), (7, _)]) Z Z ⟨Z, Z, Z, trivial⟩ Z).trans (Ent.to ⟨Z, Z, Z, trivial⟩ Z)⟩
  refine an (j2 O Z Z (jn ?_))
  exact ⟨⟨n, r, d.1, d.2, cc + 2⟩, ((am [3,4,500,503,901,902,904,905,906] (e' := [(2, _), (3, _), (4, _)]) Z Z ⟨Z, Z, Z, trivial⟩ Z)).trans (Ent.to ⟨Z, Z, Z, trivial⟩ Z), ⟨⟨fl, _, h⟩, by show az r < n; omega, by show n ≤ N; omega, ed ▸ hw.leaf, ed ▸ nE hg, by show cc + 2 + mf (az r) ≤ L; omega, ed ▸ hG⟩, Nat.lt_succ_self n⟩
 | @seq i k x y r hk1 h =>
  have hb : g.bad = false := by simpa using hc15
  generalize hs0 : b.getD k default = s at hk1 hG hlt hbd hge ⊢
  rw [ej hb hk1] at hG
  refine aq (ah (ag (j2 O Z Z (jn (ae O Z Z (fun hc17 => ?_) (fun hc17 => ?_))))))
  cases hc17
  refine ak (ah (ag (j4 O Z Z Z Z (js O Z (jf [31,17,16,15,2,3,4] Z (jn (ae O Z Z (fun hc31 => ?_) (fun hc31 => ?_))))))))
  cases hc31
  refine ak (ah (qw O [_,_,_,_,_,_,_,_,_,_,_,_] [pn [] 0 1, pn [0] 0 1, pn [0,1] 0 1, pn [0,1,2] 0 1, pn [] 0 2, pn [4] 0 2, pn [4,5] 0 2, pn [4,5,6] 0 2, pn [] 0 1, pe [] 0, pe [0,1,2,3,8,9] 1, pe [0,1,2,3,4,5,6,7,8,9,10] 2] [9,10,11] 8 6 (.box [.d .nilp]) [_,_] [_,_] [] (ai (kf O Z Z Z (kg O Z Z Z)) (ai (kf O Z Z Z (kg O Z Z Z)) (ai (kf O Z Z Z (kg O Z Z Z)) (ai (kf O Z Z Z (kg O Z Z Z)) (ai (kf O Z Z Z (kf O Z Z Z (kg O Z Z Z))) (ai (kf O Z Z Z (kf O Z Z Z (kg O Z Z Z))) (ai (kf O Z Z Z (kf O Z Z Z (kg O Z Z Z))) (ai (kf O Z Z Z (kf O Z Z Z (kg O Z Z Z))) (ai (ai (ai (aI (Eff.alloc O Z Z Z Z Z Z)) Z) (ai (aI (Eff.alloc O Z Z Z Z Z Z)) Z)) (ai (ai (aF (aI (Eff.alloc O Z Z Z Z Z Z)) (aI (Eff.alloc O Z Z Z Z Z Z))) Z) (ai (ai (aF trivial (aI (eS O Z Z Z))) Z) (ai (ai (aF trivial (aI (eS O Z Z Z))) Z) trivial)))))))))))) ?_))
  refine jw [7,6,31,17,16,15,2,3,4] Z (bK ?_)
  refine ah (ag (j4 O Z Z Z Z (js O Z (jf [64,7,6,31,17,16,15,2,3,4] Z (jn (aq (ag (j2 O Z Z (jn (ae O Z Z (fun hc65 => ?_) (fun hc65 => ?_)))))))))))
  refine fc O [_,_,_,_,_,_,_,_,_,_,_,_,_,_,_,_,_,_] [pn [] 0 1, pn [0] 0 1, pn [0,1] 0 1, pn [0,1,2] 0 1, pn (rg 0 4) 0 1, pn (rg 0 5) 0 1, pn [] 0 0, pn [6] 0 0, pn [6,7] 0 0, pn [6,7,8] 0 0, pn (rg 6 4) 0 0, pn (rg 6 5) 0 0, pn [] 0 0, pn (rg 6 7) 0 0, pe (rg 6 8) 0, pn (rg 0 15) 1 1, pe (rg 0 16) 1, pe (rg 0 17) 2] [14,16,17] [_,_,_,_] (ai (kc O Z (V O Z)) (ai (kc O Z (V O Z)) (ai (kc O Z (V O Z)) (ai (kc O Z (V O Z)) (ai (ai (bm O Z Z Z Z Z Z Z Z (by simp [Trs.d]) Z) (bm O Z Z Z Z Z Z Z Z (by simp [Trs.d]) Z)) (ai (kc O Z (V O Z)) (kc O Z (kc O Z (kc O Z (kc O Z (ai (bm O Z Z Z Z Z Z Z Z (by simp [Trs.d]) Z) (kc O Z (kc O Z (kc O Z (ai (Eff.box O Z Z Z Z Z Z Z Z) (kc O Z (ai (Eff.box O Z Z Z Z Z Z Z Z) (ai (eS O Z Z Z) trivial)))))))))))))))))) ?_
  refine jw [65,66,64,7,6,31,17,16,15,2,3,4] Z (bK ?_)
  refine an (au (Ent.freeze 81 (e' := [(2, _), (3, _), (4, _), (7, _)]) Z (fe [2,3,4,7] Z) (.cons Z (.box (fk Z)) (.cons Z (.box (fk Z)) (.cons Z (.box (fk Z)) (.cons Z (.box (fk Z)) (.skip (.cons Z (.box (.cons (.keep Z) (.cons (.keep Z) (.cons (.box (cs := [y.d, .int .i64 0, fD r]) Z (aC Z)) .nil)))) (.cons Z (.box (fk Z)) (.cons Z .map (.cons Z .row (.cons Z .row (.cons Z .row (.cons Z .row (.cons Z .row .nil)))))))))))))) ?_)
  refine au (Ent.freeze 83 (e' := [(2, _), (3, _), (4, _), (7, _)]) Z (fe [2,3,4,7] Z) (.cons Z (.box (fk Z)) (.cons Z (.box (fk Z)) (.cons Z (.box (fk Z)) (.cons Z (.box (.cons (.box (cs := [x.d, .int .i64 0, .ptr [y.d, .int .i64 0, fD r] 0]) Z (aC Z)) .nil)) (.skip (.cons Z (.box (fk Z)) (.cons Z .map (.cons Z .row (.cons Z .row (.cons Z .row (.cons Z .row (.cons Z .row .nil))))))))))))) ?_
  refine j2 O Z Z (jn ?_)
  exact ⟨⟨n, .st x :: .st y :: r, w, g, cc⟩, ((am [3,4,500,503,901,902,904,905,906] (e' := [(2, _), (3, _), (4, _)]) Z Z ⟨Z, Z, Z, trivial⟩ Z)).trans (Ent.to ⟨Z, Z, Z, trivial⟩ Z), ⟨⟨fl, _, h⟩, by simp only [az, Fr.nodes, Tr.nodes, Trs.nodes] at hlt ⊢; omega, by show n ≤ N; omega, hw.le (Nat.le_succ n), hg, Nat.le_trans (Nat.add_le_add_left (bZ (by simp only [az, Fr.nodes, Tr.nodes, Trs.nodes]; omega)) cc) hbd, hG⟩, Nat.lt_succ_self n⟩
  exact absurd (cp hc65) (by omega)
 | @cond i k x y r hi hs hk h7 p1 p2 =>
  have hb : g.bad = false := by simpa using hc15
  have hst := hE.st _ hk
  have htm := ik hst
  have hx0 := du (t := x)
  have hy0 := du (t := y)
  generalize hs0 : b.getD k default = s at hst htm h7 hG hlt hbd hge ⊢
  rw [fX hb (by omega)] at hG
  have e0 : az (.st (.node s (k : Nat) [x, y]) :: r) = 1 + (x.nodes + y.nodes) + az r := by simp only [az, Fr.nodes, Tr.nodes, Trs.nodes]; omega
  have ex : az (.st x :: r) = x.nodes + az r := rfl
  have ey : az (.st y :: r) = y.nodes + az r := rfl
  rw [e0] at hlt hbd
  have e := nL (m := 1 + (x.nodes + y.nodes) + az r - 2)
  rw [show 1 + (x.nodes + y.nodes) + az r - 2 + 2 = 1 + (x.nodes + y.nodes) + az r by omega] at e
  have e1 := bZ (m := az (.st x :: r)) (n := 1 + (x.nodes + y.nodes) + az r - 2) (by omega)
  have e2 := bZ (m := az (.st y :: r)) (n := 1 + (x.nodes + y.nodes) + az r - 2) (by omega)
  have hg2 : GOk cc (ca w (aD s.sum w.vars).1 (aR w s.sum g)) := hg.flag.flag.flag
  have hg3 := fq hE (la := bV) (frm := frm) (n := n) (w := w.fact (aD s.sum w.vars).1) p1 hg2
  refine aq (ah (ag (j2 O Z Z (jn (ae O Z Z (fun hc17 => ?_) (fun hc17 => ?_))))))
  cases hc17
  refine ak (ah (ag (j4 O Z Z Z Z (js O Z (jf [31,17,16,15,2,3,4] Z (jn (ae O Z Z (fun hc31 => ?_) (fun hc31 => ?_))))))))
  cases hc31
  refine ak (ah (qw O [_,_,_,_,_,_,_,_,_,_,_,_] [pn [] 0 1, pn [0] 0 1, pn [0,1] 0 1, pn [0,1,2] 0 1, pn [] 0 2, pn [4] 0 2, pn [4,5] 0 2, pn [4,5,6] 0 2, pn [] 0 1, pe [] 0, pe [0,1,2,3,8,9] 1, pe [0,1,2,3,4,5,6,7,8,9,10] 2] [9,10,11] 8 6 (.box [.d .nilp]) [_,_] [_,_] [] (ai (kf O Z Z Z (kg O Z Z Z)) (ai (kf O Z Z Z (kg O Z Z Z)) (ai (kf O Z Z Z (kg O Z Z Z)) (ai (kf O Z Z Z (kg O Z Z Z)) (ai (kf O Z Z Z (kf O Z Z Z (kg O Z Z Z))) (ai (kf O Z Z Z (kf O Z Z Z (kg O Z Z Z))) (ai (kf O Z Z Z (kf O Z Z Z (kg O Z Z Z))) (ai (kf O Z Z Z (kf O Z Z Z (kg O Z Z Z))) (ai (ai (ai (aI (Eff.alloc O Z Z Z Z Z Z)) Z) (ai (aI (Eff.alloc O Z Z Z Z Z Z)) Z)) (ai (ai (aF (aI (Eff.alloc O Z Z Z Z Z Z)) (aI (Eff.alloc O Z Z Z Z Z Z))) Z) (ai (ai (aF trivial (aI (eS O Z Z Z))) Z) (ai (ai (aF trivial (aI (eS O Z Z Z))) Z) trivial)))))))))))) ?_))
  refine jw [7,6,31,17,16,15,2,3,4] Z (bK ?_)
  refine ah (ag (j4 O Z Z Z Z (js O Z (jf [64,7,6,31,17,16,15,2,3,4] Z (jn (aq (ag (j2 O Z Z (jn (ae O Z Z (fun hc65 => ?_) (fun hc65 => ?_)))))))))))
  exact absurd (bz hc65) (by omega)
  refine ag (j2 O Z Z (jn (ae O Z Z (fun hc84 => ?_) (fun hc84 => ?_))))
  exact absurd (bz hc84) (by omega)
  refine ag (j2 O Z Z (jn (ae O Z Z (fun hc103 => ?_) (fun hc103 => ?_))))
  exact absurd (bz hc103) (by omega)
  refine ag (j2 O Z Z (jn (ae O Z Z (fun hc130 => ?_) (fun hc130 => ?_))))
  exact absurd (bz hc130) (by omega)
  refine ag (j2 O Z Z (jn (ae O Z Z (fun hc145 => ?_) (fun hc145 => ?_))))
  exact absurd (bz hc145) (by omega)
  refine ag (j2 O Z Z (jn (ae O Z Z (fun hc157 => ?_) (fun hc157 => ?_))))
  exact absurd (bz hc157) (by omega)
  refine ag (j2 O Z Z (jn (ae O Z Z (fun hc178 => ?_) (fun hc178 => ?_))))
  refine ah ?_
  have hT := wY (c := (bC E SS bd lo be nm)) (g := (aR w s.sum g)) (frm := frm) (w := w) (t := (aD s.sum w.vars).1) (d8 := Tr.d (.node s k [x, y])) (d9 := fD r) (Y := (dx bV E frm n (.st x :: r))) (N := (dx bV E frm n (.st y :: r))) h1 h2 (fun u g h => bX h) (fun u g h => bX h) dN (by omega) (by omega) (by omega) (fun _ => zd h1 h2 (ih n (by omega) ⟨fl, _, p1⟩ (by omega) (hw.fact) hg2 (by omega))) (fun _ => zc h1 h2 (ih n (by omega) ⟨fl, _, p2⟩ (by omega) (hw.fact) hg3 (by omega)))
  refine jj O [_,_,_,_,_,_,_,_,_,_,_,_,_,_,_,_] [pn [] 0 1, pn [0] 0 1, pn [0,1] 0 1, pn [] 0 1, pn [] 0 0, pn [4] 0 0, pn [4,5] 0 0, pn [] 0 0, pn [7] 0 0, pn [7,8] 0 0, pn [7,8,9] 0 0, pn (rg 7 4) 0 0, pe (rg 4 8) 0, pn [] 0 1, pn [] 0 1, pe (rg 0 15) 1] [12,15] [_, [(3, pB 500), (6, xB (Tr.d (.node s (k : Nat) [x, y]))), (7, xB (fD r)), (500, iB (bC E SS bd lo be nm) (aR w s.sum g) 901 902 503), (901, aJ (aR w s.sum g).paths), (902, aK (aR w s.sum g).conds), (503, aX nm), (4, iW frm w 904 905 906), (904, aE w.vars), (905, aE w.facts), (906, aA w.ev)], _] [[], [901,902,904,905,906]] (ai (ka O Z Z (kw O Z Z)) (ai (ka O Z Z (kw O Z Z)) (ai (ka O Z Z (kw O Z Z)) (ai (ka O Z Z (kw O Z Z)) (ka O Z Z (ka O Z Z (ka O Z Z (ka O Z Z (ka O Z Z (ka O Z Z (ka O Z Z (ka O Z Z (ai (ai (aI (bO O [500,901,902,503,4,904,905,906] (bin := [iB (bC E SS bd lo be nm) g 1 2 3, aJ g.paths, aK g.conds, aX nm, iW frm w 5 6 7, aE w.vars, aE w.facts, aA w.ev]) Z Z Z Z (kB (c := (bC E SS bd lo be nm)) (frm := frm) (w := w) (g := g) (t := s.sum) h1 h2 htm.1.1 hva (by have := htm.1.2; omega)) Z Z Z Z Z (B0 := 193000) Z Z Z Z Z Z)) Z) (ai (ka O Z Z (kw O Z Z)) (ai (ka O Z Z (kw O Z Z)) (ai (ai (bU O [500,901,902,503,904,905,906,3,6,7] [901,902,904,905,906] (bin := [iB (bC E SS bd lo be nm) (aR w s.sum g) 1 2 3, aJ (aR w s.sum g).paths, aK (aR w s.sum g).conds, aX nm, aE w.vars, aE w.facts, aA w.ev, pB 0, xB (Tr.d (.node s k [x, y])), xB (fD r)]) Z Z Z Z (hT) Z Z Z Z Z (B0 := 196000) Z Z Z Z Z Z Z) Z) trivial)))))))))))))))) ?_
  refine jw [178,179,157,158,145,146,130,131,103,104,84,85,65,66,64,7,6,31,17,16,15,2,3,4] Z (bK ?_)
  refine ff ?_
  rw [← hG]
  refine ⟨.inl Z, _, (ac 196010 510 Z Z).trans (ac 196011 511 Z Z), _, Z, Z, Z⟩
  exact absurd (cp hc178) (by omega)
 | @loop i k x r hi hs hk h8 =>
  have hb : g.bad = false := by simpa using hc15
  have hnum := hP.num _ hk h8
  have hf := fO (hE.st _ hk)
  have hEn := hE.num _ hk h8
  generalize hs0 : b.getD k default = s at h8 hf hG hlt hbd hge ⊢
  rw [gJ hb, hEn] at hG
  refine aq (ah (ag (j2 O Z Z (jn (ae O Z Z (fun hc17 => ?_) (fun hc17 => ?_))))))
  cases hc17
  refine ak (ah (ag (j4 O Z Z Z Z (js O Z (jf [31,17,16,15,2,3,4] Z (jn (ae O Z Z (fun hc31 => ?_) (fun hc31 => ?_))))))))
  cases hc31
  refine ak (ah (qw O [_,_,_,_,_,_,_,_,_,_,_,_] [pn [] 0 1, pn [0] 0 1, pn [0,1] 0 1, pn [0,1,2] 0 1, pn [] 0 2, pn [4] 0 2, pn [4,5] 0 2, pn [4,5,6] 0 2, pn [] 0 1, pe [] 0, pe [0,1,2,3,8,9] 1, pe [0,1,2,3,4,5,6,7,8,9,10] 2] [9,10,11] 8 6 (.box [.d .nilp]) [_,_] [_,_] [] (ai (kf O Z Z Z (kg O Z Z Z)) (ai (kf O Z Z Z (kg O Z Z Z)) (ai (kf O Z Z Z (kg O Z Z Z)) (ai (kf O Z Z Z (kg O Z Z Z)) (ai (kf O Z Z Z (kf O Z Z Z (kg O Z Z Z))) (ai (kf O Z Z Z (kf O Z Z Z (kg O Z Z Z))) (ai (kf O Z Z Z (kf O Z Z Z (kg O Z Z Z))) (ai (kf O Z Z Z (kf O Z Z Z (kg O Z Z Z))) (ai (ai (ai (aI (Eff.alloc O Z Z Z Z Z Z)) Z) (ai (aI (Eff.alloc O Z Z Z Z Z Z)) Z)) (ai (ai (aF (aI (Eff.alloc O Z Z Z Z Z Z)) (aI (Eff.alloc O Z Z Z Z Z Z))) Z) (ai (ai (aF trivial (aI (eS O Z Z Z))) Z) (ai (ai (aF trivial (aI (eS O Z Z Z))) Z) trivial)))))))))))) ?_))
  refine jw [7,6,31,17,16,15,2,3,4] Z (bK ?_)
  refine ah (ag (j4 O Z Z Z Z (js O Z (jf [64,7,6,31,17,16,15,2,3,4] Z (jn (aq (ag (j2 O Z Z (jn (ae O Z Z (fun hc65 => ?_) (fun hc65 => ?_)))))))))))
  exact absurd (bz hc65) (by omega)
  refine ag (j2 O Z Z (jn (ae O Z Z (fun hc84 => ?_) (fun hc84 => ?_))))
  exact absurd (bz hc84) (by omega)
  refine ag (j2 O Z Z (jn (ae O Z Z (fun hc103 => ?_) (fun hc103 => ?_))))
  exact absurd (bz hc103) (by omega)
  refine ag (j2 O Z Z (jn (ae O Z Z (fun hc130 => ?_) (fun hc130 => ?_))))
  exact absurd (bz hc130) (by omega)
  refine ag (j2 O Z Z (jn (ae O Z Z (fun hc145 => ?_) (fun hc145 => ?_))))
  exact absurd (bz hc145) (by omega)
  refine ag (j2 O Z Z (jn (ae O Z Z (fun hc157 => ?_) (fun hc157 => ?_))))
  exact absurd (bz hc157) (by omega)
  refine ag (j2 O Z Z (jn (ae O Z Z (fun hc178 => ?_) (fun hc178 => ?_))))
  exact absurd (bz hc178) (by omega)
  refine ag (j2 O Z Z (jn (ae O Z Z (fun hc196 => ?_) (fun hc196 => ?_))))
  refine ah (fc O [_,_,_,_,_,_,_,_,_,_] [pn [] 0 0, pn [0] 0 0, pn [0,1] 0 0, pn [0,1,2] 0 0, pn [] 0 0, pn [4] 0 0, pn [4,5] 0 0, pn [4,5,6] 0 0, pn (rg 0 8) 0 0, pn (rg 0 9) 0 0] [] [_] (kc O Z (kc O Z (kc O Z (kc O Z (kc O Z (kc O Z (kc O Z (kc O Z (ai ((pc (kt := 2) (et := 2) (q := .i64) (z := .int .i64 0) (es := nm) (k := (k : Nat)) O Z Z Z xO uK zK Z Z Z Z).cast (v' := eI (ba b k : Nat)) (by rw [hnum]; rfl)) (kc O Z trivial)))))))))) ?_)
  refine jw [9,196,197,178,179,157,158,145,146,130,131,103,104,84,85,65,66,64,7,6,31,17,16,15,2,3,4] Z (bK ?_)
  refine ah (jj O [_,_,_,_,_,_,_,_,_,_] [pn [] 0 0, pn [0] 0 0, pn [0,1] 0 0, pn [] 0 0, pn [] 0 0, pn [4] 0 0, pn [4,5] 0 0, pn [4,5,6] 0 0, pn (rg 4 4) 0 0, pe (rg 0 9) 0] [9] [_,_] [[901,902]] (ka O Z Z (ka O Z Z (ka O Z Z (ka O Z Z (ka O Z Z (ka O Z Z (ka O Z Z (ka O Z Z (ka O Z Z (ai (ai (bU O [500,901,902,503,4,904,905,906] [901,902] (bin := [iB (bC E SS bd lo be nm) g 1 2 3, aJ g.paths, aK g.conds, aX nm, iW frm w 5 6 7, aE w.vars, aE w.facts, aA w.ev]) Z Z Z Z (sG (c := (bC E SS bd lo be nm)) (g := g) (frm := frm) (w := w) (to := (ba b k : Nat)) (fs := s.facts) h1 h2 hw.ctx hw.vars hf.1 (by have := hf.2; omega) (by omega)) Z Z Z Z Z (B0 := 217000) Z Z Z Z Z Z Z) Z) trivial)))))))))) ?_)
  refine jw [196,197,178,179,157,158,145,146,130,131,103,104,84,85,65,66,64,7,6,31,17,16,15,2,3,4] Z (bK ?_)
  refine ff ?_
  rw [← hG]
  refine ⟨.inl Z, _, (ac 217009 510 Z Z).trans (ac 217008 511 Z Z), _, Z, Z, Z⟩
  exact absurd (cp hc196) (by omega)
 refine bH ?_
 show _ ∧ _
 have hb : g.bad = true := by simpa using hc15
 rw [← hG, bX hb]
 refine ⟨.inr Z, _, (ac 901 510 Z Z).trans (ac 902 511 Z Z), _, Z, Z, Z⟩
theorem sH {L : Nat} (h1 : 4096 ≤ L) (h2 : L ≤ 1073741824) {E : Pe} {b : List Sm} {SS : List (List Tm)} {bd lo be : D} {nm : List (Int × D)} {frm : Int} (hE : EOk E b) (hbl : b.length ≤ 1000) (hP : PcOk E b SS nm) (n : Nat) : ∀ {r : List Fr} {w : Pw} {g : Gs} {c : Nat}, (∃ fl i, Pl b fl i r) → az r < n → WOk n w → GOk c g → c + mf (az r) ≤ L → kZ L (bC E SS bd lo be nm) frm w g (fD r) (dx bV E frm n r w g) := by
 induction n using Nat.strongRecOn with
 | _ n ih =>
  intro r w g c hp hn hw hg hL
  exact wZ h1 h2 hE hbl hP (N := n) (r0 := r) (w0 := w) (g0 := g) (c0 := c) (fun m hm => ih m hm) ⟨hp, hn, cN _, hw, hg, hL, Z⟩
end Go.Al
