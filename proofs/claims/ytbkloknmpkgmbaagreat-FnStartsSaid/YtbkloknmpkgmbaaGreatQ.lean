/- The program follows a path. -/
import Derived.Test.YtbkloknmpkgmbaaGreatP
import Derived.Test.YtbkloknmpkgmbaaGreatC
set_option linter.unusedVariables false
set_option linter.unusedSimpArgs false
set_option maxRecDepth 10000
set_option maxHeartbeats 4000000
open Go.Proofs
namespace Go.Al
variable {L : Nat} (h1 : 4096 ≤ L) (h2 : L ≤ 1073741824)
abbrev xB (d : D) : B := .box [.d d]
abbrev pB (l : Nat) : B := .box [.pt l 0 0]
abbrev iT (c : Pc) (g : Gs) (w : Pw) (d8 d9 : D) : List (Nat × B) := [(0, iB c g 1 2 3), (1, aB g.paths), (2, aD g.conds), (3, aO c.num), (4, aG w.vars), (5, aG w.facts), (6, aZ w.ev), (7, pB 0), (8, xB d8), (9, xB d9)]
abbrev oT (c : Pc) (g : Gs) (d8 d9 : D) : List (Nat × B) := [(0, iB c g 10 11 3), (3, aO c.num), (7, pB 0), (8, xB d8), (9, xB d9), (10, aB g.paths), (11, aD g.conds)]
abbrev bT (w : Pw) (t : Tm) (g : Gs) : Gs := (g.flag (!(bo t).2)).flag (w.fact t).long
theorem ju {g : Gs} (h : g.bad = true) {b : Bool} : g.flag b = g := by cases g; simp only at h; simp [Gs.flag, h]
def kv (Y : Pw → Gs → Gs) : Prop := ∀ u g, g.bad = true → Y u g = g
theorem rN {Y : Pw → Gs → Gs} (hY : kv Y) {w : Pw} {t u : Tm} {g : Gs} (hb : (Y (w.fact t) (bT w t g)).bad = false) : (Y (w.fact t) (bT w t g)).flag (w.fact u).long = Y (w.fact t) (bT w t g) := by
 have h2 : (bT w t g).bad = false := by
  cases h : (bT w t g).bad with
  | false => rfl
  | true => rw [hY _ _ h, h] at hb; cases hb
 have h3 : (w.fact t).long = false := by simp [bT, Gs.flag] at h2; exact h2.2
 rw [mU (t := u) (u := t), h3, kj]
theorem t3 {Y N : Pw → Gs → Gs} (hY : kv Y) (hN : kv N) {w : Pw} {t : Tm} {g : Gs} (h : (g.flag (!(bo t).2)).bad = true) : c6 Y N w t g = g.flag (!(bo t).2) := by
 rw [c6, ju h, hY _ _ h, hN _ _ h]
theorem t2 {Y N : Pw → Gs → Gs} (hY : kv Y) (hN : kv N) {w : Pw} {t : Tm} {g : Gs} (h : (bT w t g).bad = true) : c6 Y N w t g = bT w t g := by
 rw [c6, hY _ _ h, hN _ _ h]
theorem t0 {Y N : Pw → Gs → Gs} (hN : kv N) {w : Pw} {t : Tm} {g : Gs} (h : (Y (w.fact t) (bT w t g)).bad = true) : c6 Y N w t g = Y (w.fact t) (bT w t g) := by
 rw [c6, hN _ _ h]
theorem r4 {L : Nat} (h1 : 4096 ≤ L) (h2 : L ≤ 1073741824) {c : Pc} {g : Gs} {frm : Int} {w : Pw} {t : Tm} (hl : w.facts.length ≤ 1000) (he : g.flag (w.fact t).long = g) : MC Tryz.prog L 158 [.c (.pt 0 0 0), .c (.pt 4 0 0), cP t] (iH c g frm w) (aV (.tup []) (zi c g frm (w.fact t))) := by
 have h := pW h1 h2 (c := c) (g := g) (frm := frm) (w := w) (t := t) hl
 rw [he] at h
 exact h
variable {c : Pc} {g : Gs} {frm : Int} {w : Pw}
theorem vr {t : Tm} {d8 d9 : D} {fy fn : Nat} {Y N : Pw → Gs → Gs} (hY : kv Y) (hN : kv N) (ht : t.ok = true) (hv : w.vars.length ≤ 1000) (hl : w.facts.length ≤ 1000) (he : w.ev.length ≤ 1000)
  (hy : (bT w t g).bad = false → MQ h1 h2 fy [wA frm (w.fact t) 4 5 6, .c (.pt 7 0 0), .c (.pt 8 0 0), .c (.pt 9 0 0)] (iT c (bT w t g) (w.fact t) d8 d9) (aV (.tup []) (oT c (Y (w.fact t) (bT w t g)) d8 d9))) (hn : (Y (w.fact t) (bT w t g)).bad = false → MQ h1 h2 fn [wA frm (w.fact (bo t).1) 4 5 6, .c (.pt 7 0 0), .c (.pt 8 0 0), .c (.pt 9 0 0)] (iT c (Y (w.fact t) (bT w t g)) (w.fact (bo t).1) d8 d9) (aV (.tup []) (oT c (N (w.fact (bo t).1) (Y (w.fact t) (bT w t g))) d8 d9))) :
  MQ h1 h2 113 [.c (.pt 0 0 0), wA frm w 4 5 6, cP t, .c (.fn fy [.pt 7 0 0, .pt 8 0 0, .pt 9 0 0]), .c (.fn fn [.pt 7 0 0, .pt 8 0 0, .pt 9 0 0])] (iT c g w d8 d9) (aV (.tup []) (oT c (c6 Y N w t g) d8 d9)) := by
 refine MC.shift 500 Z (MC.keep [500,503,507,508,509,510,511] (bs := [iB c (c6 Y N w t g) 510 511 503, aO c.num, pB 500, xB d8, xB d9, aB (c6 Y N w t g).paths, aD (c6 Y N w t g).conds]) Z Z (jH 53 [500,501,502,503,504,505,506,507,508,509] h1 h2 Tryz.func113 Z Z Z Z fun O hF => ?_))
 refine bQ ?_
 refine ag (jx O Z (av ?_))
 refine jf [6,0,2,3,4] Z (jx O Z (av ?_))
 refine aj (Ent.freeze 7 (e' := [(7, _), (6, _), (0, _), (3, _), (4, _)]) Z (.cons Z (.c (.box (cs := Tm.cells t) Z (aI Z))) (fe [6,0,3,4] Z)) (.cons Z (.box (fk Z)) (.skip (.cons Z (.box (fk Z)) (.cons Z .row (.cons Z .row (.cons Z .map (.cons Z .row (.cons Z .row (.cons Z .row (.cons Z (.box (fk Z)) (.cons Z (.box (fk Z)) (.cons Z (.box (fk Z)) .nil))))))))))))) ?_
 refine av ?_
 refine bf (j2 O Z Z (ak O Z Z Z Z (uf (t := t) h1 h2 ht) (ac Z) Z Z Z Z (B0 := 16000) Z Z (j2 O Z Z (jf [17,16,13,7,6,0,3,4] Z (aq O [500,501,502,503] (bin := [iB c g 1 2 3, aB g.paths, aD g.conds, aO c.num]) Z Z Z Z (r3 (c := c) (g := g) (t := (bo t).1) (ok := (bo t).2) h1 h2) Z Z Z Z Z Z (B0 := 19000) Z Z (av ?_))))))
 refine jf [18,7,6,0,3,4] Z (jl O Z (av ?_))
 refine jo O Z (av ?_)
 refine aj (Ent.freeze 10 (e' := [(10, _), (6, _), (7, _), (0, _), (3, _), (4, _)]) Z (.cons Z (.c (.box (cs := Tm.cells (bo t).1) Z (aI Z))) (fe [6,7,0,3,4] Z)) (.cons Z (.box (fk Z)) (.skip (.cons Z .row (.cons Z .row (.cons Z .row (.cons Z (.box (fk Z)) (.cons Z (.box (fk Z)) (.cons Z (.box (fk Z)) (.cons Z (.box (fk Z)) (.cons Z .row (.cons Z .row (.cons Z .map .nil))))))))))))) ?_
 refine av ?_
 refine jn (ah (ag (j4 O Z Z Z Z (jf [22,10,6,7,0,3,4] Z (jn (af O Z Z (fun hc22 => ?_) (fun hc22 => ?_)))))))
 refine fK ?_
 rw [t3 hY hN hc22]
 refine ⟨.inl Z, _, (ae 501 510 Z Z).trans (ae 502 511 Z Z), _, Z, Z, Z⟩
 refine an (ag (js O Z (jf [23,10,6,7,0,3,4] Z (aq O [504,505,506] (bin := [aG w.vars, aG w.facts, aZ w.ev]) Z Z Z Z (pV (frm := frm) (w := w) h1 h2 hv hl he) Z Z Z Z Z Z (B0 := 25000) Z Z (av ?_)))))
 refine jf [24,10,6,7,0,3,4] Z (jl O Z (av ?_))
 refine jo O Z (av ?_)
 refine bf (j2 O Z Z (aq O [500,501,502,503,11,25003,25004,25005] (bin := [iB c (g.flag (!(bo t).2)) 1 2 3, aB (g.flag (!(bo t).2)).paths, aD (g.flag (!(bo t).2)).conds, aO c.num, iW frm w 5 6 7, aG w.vars, aG w.facts, aZ w.ev]) Z Z Z Z (pW (c := c) (g := (g.flag (!(bo t).2))) (frm := frm) (w := w) (t := t) h1 h2 hl) Z Z Z Z Z Z (B0 := 28000) Z Z (av ?_)))
 refine jf [11,24,10,6,7,0,3,4] Z (jn (ah (ag (j4 O Z Z Z Z (js O Z (jf [32,11,24,10,6,7,0,3,4] Z (jn (af O Z Z (fun hc32 => ?_) (fun hc32 => ?_)))))))))
 refine am (j2 O Z Z (jf [34,33,11,24,10,6,7,0,4] Z (aq O [500,501,502,503,25003,28009,25005,507,508,509] (bin := [iB c (bT w t g) 1 2 3, aB (bT w t g).paths, aD (bT w t g).conds, aO c.num, aG (w.fact t).vars, aG (w.fact t).facts, aZ (w.fact t).ev, pB 0, xB d8, xB d9]) Z Z Z Z (hy (by simpa using hc32)) Z Z Z Z Z Z (B0 := 36000) Z Z (av ?_))))
 refine jf [11,24,10,6,7,0,4] Z (jn (ah (ag (j4 O Z Z Z Z (jf [39,11,24,10,6,7,0,4] Z (jn (af O Z Z (fun hc39 => ?_) (fun hc39 => ?_))))))))
 refine fK ?_
 rw [t0 hN hc39]
 refine ⟨.inl Z, _, (ae 36010 510 Z Z).trans (ae 36011 511 Z Z), _, Z, Z, Z⟩
 refine an (ag (js O Z (jf [40,11,24,10,6,7,0,4] Z (aq O [504,505,506] (bin := [aG w.vars, aG w.facts, aZ w.ev]) Z Z Z Z (pV (frm := frm) (w := w) h1 h2 hv hl he) Z Z Z Z Z Z (B0 := 42000) Z Z (av ?_)))))
 refine jf [41,11,24,10,6,7,0,4] Z (jl O Z (av ?_))
 refine jo O Z (av ?_)
 refine bf (j2 O Z Z (aq O [500,36010,36011,503,12,42003,42004,42005] (bin := [iB c (Y (w.fact t) (bT w t g)) 1 2 3, aB (Y (w.fact t) (bT w t g)).paths, aD (Y (w.fact t) (bT w t g)).conds, aO c.num, iW frm w 5 6 7, aG w.vars, aG w.facts, aZ w.ev]) Z Z Z Z (r4 (c := c) (g := (Y (w.fact t) (bT w t g))) (frm := frm) (w := w) (t := (bo t).1) h1 h2 hl (rN hY hc39)) Z Z Z Z Z Z (B0 := 45000) Z Z (av ?_)))
 refine jf [12,41,11,24,10,6,7,0,4] Z (bf (j4 O Z Z Z Z (js O Z (jf [49,12,41,11,24,10,6,7,0,4] Z (jn (af O Z Z (fun hc49 => ?_) (fun hc49 => ?_)))))))
 refine am (j2 O Z Z (jf [51,50,12,41,11,24,10,6,7,0] Z (aq O [500,36010,36011,503,42003,45009,42005,507,508,509] (bin := [iB c (Y (w.fact t) (bT w t g)) 1 2 3, aB (Y (w.fact t) (bT w t g)).paths, aD (Y (w.fact t) (bT w t g)).conds, aO c.num, aG (w.fact (bo t).1).vars, aG (w.fact (bo t).1).facts, aZ (w.fact (bo t).1).ev, pB 0, xB d8, xB d9]) Z Z Z Z (hn hc39) Z Z Z Z Z Z (B0 := 53000) Z Z (av ?_))))
 refine jf [12,41,11,24,10,6,7,0] Z (jn ?_)
 show _ ∧ _
 refine ⟨.inr Z, _, (ae 53010 510 Z Z).trans (ae 53011 511 Z Z), _, Z, Z, Z⟩
 exact absurd (show (!(Y (w.fact t) (bT w t g)).bad) = false from hc49) (by rw [show (Y (w.fact t) (bT w t g)).bad = false from hc39]; decide)
 refine an (ah (ag (j4 O Z Z Z Z (jf [39,11,24,10,6,7,0,3,4] Z (jn (af O Z Z (fun hc39 => ?_) (fun hc39 => ?_)))))))
 refine fK ?_
 rw [t2 hY hN hc39]
 refine ⟨.inl Z, _, (ae 501 510 Z Z).trans (ae 502 511 Z Z), _, Z, Z, Z⟩
 exact absurd (show (!(bT w t g).bad) = false from hc32) (by rw [show (bT w t g).bad = false from hc39]; decide)
theorem vq {t : Tm} {d8 d9 : D} {fy fn : Nat} {Y N : Pw → Gs → Gs} (hY : kv Y) (hN : kv N) (ht : t.ok = true) (hv : w.vars.length ≤ 1000) (hl : w.facts.length ≤ 1000) (he : w.ev.length ≤ 1000)
  (hy : (bT w t g).bad = false → MQ h1 h2 fy [wA frm (w.fact t) 4 5 6, .c (.pt 7 0 0), .c (.pt 8 0 0), .c (.pt 9 0 0)] (iT c (bT w t g) (w.fact t) d8 d9) (aV (.tup []) (oT c (Y (w.fact t) (bT w t g)) d8 d9))) (hn : (Y (w.fact t) (bT w t g)).bad = false → MQ h1 h2 fn [wA frm (w.fact (bo t).1) 4 5 6, .c (.pt 7 0 0), .c (.pt 9 0 0)] (iT c (Y (w.fact t) (bT w t g)) (w.fact (bo t).1) d8 d9) (aV (.tup []) (oT c (N (w.fact (bo t).1) (Y (w.fact t) (bT w t g))) d8 d9))) :
  MQ h1 h2 113 [.c (.pt 0 0 0), wA frm w 4 5 6, cP t, .c (.fn fy [.pt 7 0 0, .pt 8 0 0, .pt 9 0 0]), .c (.fn fn [.pt 7 0 0, .pt 9 0 0])] (iT c g w d8 d9) (aV (.tup []) (oT c (c6 Y N w t g) d8 d9)) := by
 refine MC.shift 500 Z (MC.keep [500,503,507,508,509,510,511] (bs := [iB c (c6 Y N w t g) 510 511 503, aO c.num, pB 500, xB d8, xB d9, aB (c6 Y N w t g).paths, aD (c6 Y N w t g).conds]) Z Z (jH 53 [500,501,502,503,504,505,506,507,508,509] h1 h2 Tryz.func113 Z Z Z Z fun O hF => ?_))
 refine bQ ?_
 refine ag (jx O Z (av ?_))
 refine jf [6,0,2,3,4] Z (jx O Z (av ?_))
 refine aj (Ent.freeze 7 (e' := [(7, _), (6, _), (0, _), (3, _), (4, _)]) Z (.cons Z (.c (.box (cs := Tm.cells t) Z (aI Z))) (fe [6,0,3,4] Z)) (.cons Z (.box (fk Z)) (.skip (.cons Z (.box (fk Z)) (.cons Z .row (.cons Z .row (.cons Z .map (.cons Z .row (.cons Z .row (.cons Z .row (.cons Z (.box (fk Z)) (.cons Z (.box (fk Z)) (.cons Z (.box (fk Z)) .nil))))))))))))) ?_
 refine av ?_
 refine bf (j2 O Z Z (ak O Z Z Z Z (uf (t := t) h1 h2 ht) (ac Z) Z Z Z Z (B0 := 16000) Z Z (j2 O Z Z (jf [17,16,13,7,6,0,3,4] Z (aq O [500,501,502,503] (bin := [iB c g 1 2 3, aB g.paths, aD g.conds, aO c.num]) Z Z Z Z (r3 (c := c) (g := g) (t := (bo t).1) (ok := (bo t).2) h1 h2) Z Z Z Z Z Z (B0 := 19000) Z Z (av ?_))))))
 refine jf [18,7,6,0,3,4] Z (jl O Z (av ?_))
 refine jo O Z (av ?_)
 refine aj (Ent.freeze 10 (e' := [(10, _), (6, _), (7, _), (0, _), (3, _), (4, _)]) Z (.cons Z (.c (.box (cs := Tm.cells (bo t).1) Z (aI Z))) (fe [6,7,0,3,4] Z)) (.cons Z (.box (fk Z)) (.skip (.cons Z .row (.cons Z .row (.cons Z .row (.cons Z (.box (fk Z)) (.cons Z (.box (fk Z)) (.cons Z (.box (fk Z)) (.cons Z (.box (fk Z)) (.cons Z .row (.cons Z .row (.cons Z .map .nil))))))))))))) ?_
 refine av ?_
 refine jn (ah (ag (j4 O Z Z Z Z (jf [22,10,6,7,0,3,4] Z (jn (af O Z Z (fun hc22 => ?_) (fun hc22 => ?_)))))))
 refine fK ?_
 rw [t3 hY hN hc22]
 refine ⟨.inl Z, _, (ae 501 510 Z Z).trans (ae 502 511 Z Z), _, Z, Z, Z⟩
 refine an (ag (js O Z (jf [23,10,6,7,0,3,4] Z (aq O [504,505,506] (bin := [aG w.vars, aG w.facts, aZ w.ev]) Z Z Z Z (pV (frm := frm) (w := w) h1 h2 hv hl he) Z Z Z Z Z Z (B0 := 25000) Z Z (av ?_)))))
 refine jf [24,10,6,7,0,3,4] Z (jl O Z (av ?_))
 refine jo O Z (av ?_)
 refine bf (j2 O Z Z (aq O [500,501,502,503,11,25003,25004,25005] (bin := [iB c (g.flag (!(bo t).2)) 1 2 3, aB (g.flag (!(bo t).2)).paths, aD (g.flag (!(bo t).2)).conds, aO c.num, iW frm w 5 6 7, aG w.vars, aG w.facts, aZ w.ev]) Z Z Z Z (pW (c := c) (g := (g.flag (!(bo t).2))) (frm := frm) (w := w) (t := t) h1 h2 hl) Z Z Z Z Z Z (B0 := 28000) Z Z (av ?_)))
 refine jf [11,24,10,6,7,0,3,4] Z (jn (ah (ag (j4 O Z Z Z Z (js O Z (jf [32,11,24,10,6,7,0,3,4] Z (jn (af O Z Z (fun hc32 => ?_) (fun hc32 => ?_)))))))))
 refine am (j2 O Z Z (jf [34,33,11,24,10,6,7,0,4] Z (aq O [500,501,502,503,25003,28009,25005,507,508,509] (bin := [iB c (bT w t g) 1 2 3, aB (bT w t g).paths, aD (bT w t g).conds, aO c.num, aG (w.fact t).vars, aG (w.fact t).facts, aZ (w.fact t).ev, pB 0, xB d8, xB d9]) Z Z Z Z (hy (by simpa using hc32)) Z Z Z Z Z Z (B0 := 36000) Z Z (av ?_))))
 refine jf [11,24,10,6,7,0,4] Z (jn (ah (ag (j4 O Z Z Z Z (jf [39,11,24,10,6,7,0,4] Z (jn (af O Z Z (fun hc39 => ?_) (fun hc39 => ?_))))))))
 refine fK ?_
 rw [t0 hN hc39]
 refine ⟨.inl Z, _, (ae 36010 510 Z Z).trans (ae 36011 511 Z Z), _, Z, Z, Z⟩
 refine an (ag (js O Z (jf [40,11,24,10,6,7,0,4] Z (aq O [504,505,506] (bin := [aG w.vars, aG w.facts, aZ w.ev]) Z Z Z Z (pV (frm := frm) (w := w) h1 h2 hv hl he) Z Z Z Z Z Z (B0 := 42000) Z Z (av ?_)))))
 refine jf [41,11,24,10,6,7,0,4] Z (jl O Z (av ?_))
 refine jo O Z (av ?_)
 refine bf (j2 O Z Z (aq O [500,36010,36011,503,12,42003,42004,42005] (bin := [iB c (Y (w.fact t) (bT w t g)) 1 2 3, aB (Y (w.fact t) (bT w t g)).paths, aD (Y (w.fact t) (bT w t g)).conds, aO c.num, iW frm w 5 6 7, aG w.vars, aG w.facts, aZ w.ev]) Z Z Z Z (r4 (c := c) (g := (Y (w.fact t) (bT w t g))) (frm := frm) (w := w) (t := (bo t).1) h1 h2 hl (rN hY hc39)) Z Z Z Z Z Z (B0 := 45000) Z Z (av ?_)))
 refine jf [12,41,11,24,10,6,7,0,4] Z (bf (j4 O Z Z Z Z (js O Z (jf [49,12,41,11,24,10,6,7,0,4] Z (jn (af O Z Z (fun hc49 => ?_) (fun hc49 => ?_)))))))
 refine am (j2 O Z Z (jf [51,50,12,41,11,24,10,6,7,0] Z (aq O [500,36010,36011,503,42003,45009,42005,507,508,509] (bin := [iB c (Y (w.fact t) (bT w t g)) 1 2 3, aB (Y (w.fact t) (bT w t g)).paths, aD (Y (w.fact t) (bT w t g)).conds, aO c.num, aG (w.fact (bo t).1).vars, aG (w.fact (bo t).1).facts, aZ (w.fact (bo t).1).ev, pB 0, xB d8, xB d9]) Z Z Z Z (hn hc39) Z Z Z Z Z Z (B0 := 53000) Z Z (av ?_))))
 refine jf [12,41,11,24,10,6,7,0] Z (jn ?_)
 show _ ∧ _
 refine ⟨.inr Z, _, (ae 53010 510 Z Z).trans (ae 53011 511 Z Z), _, Z, Z, Z⟩
 exact absurd (show (!(Y (w.fact t) (bT w t g)).bad) = false from hc49) (by rw [show (Y (w.fact t) (bT w t g)).bad = false from hc39]; decide)
 refine an (ah (ag (j4 O Z Z Z Z (jf [39,11,24,10,6,7,0,3,4] Z (jn (af O Z Z (fun hc39 => ?_) (fun hc39 => ?_)))))))
 refine fK ?_
 rw [t2 hY hN hc39]
 refine ⟨.inl Z, _, (ae 501 510 Z Z).trans (ae 502 511 Z Z), _, Z, Z, Z⟩
 exact absurd (show (!(bT w t g).bad) = false from hc32) (by rw [show (bT w t g).bad = false from hc39]; decide)
def fD : List Fr → D
  | [] => .nilp
  | .st t :: r => .ptr [t.d, .int .i64 0, fD r] 0
  | .lp k :: _ => .ptr [.nilp, .int .i64 (k : Nat), .nilp] 0
abbrev iF (c : Pc) (g : Gs) (w : Pw) : List (Nat × B) := [(0, iB c g 1 2 3), (1, aB g.paths), (2, aD g.conds), (3, aO c.num), (4, aG w.vars), (5, aG w.facts), (6, aZ w.ev)]
abbrev oF (c : Pc) (g : Gs) : List (Nat × B) := [(0, iB c g 10 11 3), (3, aO c.num), (10, aB g.paths), (11, aD g.conds)]
abbrev s5 (a b c : D) : B := .box [.d a, .d b, .d c]
abbrev kx (L : Nat) (c : Pc) (frm : Int) (w : Pw) (g : Gs) (d : D) (g' : Gs) : Prop := MC Tryz.prog L 112 [.c (.pt 0 0 0), wA frm w 4 5 6, .c (.d d)] (iF c g w) (aV (.tup []) (oF c g'))
theorem pN {L : Nat} {c : Pc} {frm : Int} {w : Pw} {g g' : Gs} {d1 d2 d3 : D} (h : kx L c frm w g (.ptr [d1, d2, d3] 0) g') : MC Tryz.prog L 112 [.c (.pt 0 0 0), wA frm w 4 5 6, .c (.pt 7 0 0)] (iF c g w ++ [(7, s5 d1 d2 d3)]) (aV (.tup []) (oF c g')) :=
  MC.freeze 7 Z (.cons (.keep Z) (.cons (.keep Z) (.cons (.c (.box Z (aI Z))) .nil))) (.cons Z (.box (.cons (.keep Z) (.cons (.keep Z) (.cons (.keep Z) (.cons (.keep Z) (.cons (.keep Z) (.cons (.keep Z) (.cons (.keep Z) (.cons (.keep Z) (.cons (.keep Z) .nil)))))))))) (.cons Z .row (.cons Z .row (.cons Z .map (.cons Z .row (.cons Z .row (.cons Z .row (.skip .nil)))))))) Z h
theorem uX {L : Nat} {c : Pc} {frm : Int} {w : Pw} {g g' : Gs} {d1 d2 e1 e2 e3 : D} (h : kx L c frm w g (.ptr [d1, d2, .ptr [e1, e2, e3] 0] 0) g') : MC Tryz.prog L 112 [.c (.pt 0 0 0), wA frm w 4 5 6, .c (.pt 7 0 0)] (iF c g w ++ [(7, .box [.d d1, .d d2, .pt 8 0 0]), (8, s5 e1 e2 e3)]) (aV (.tup []) (oF c g')) :=
  MC.freeze 8 Z (.cons (.keep Z) (.cons (.keep Z) (.cons (.keep Z) .nil))) (.cons Z (.box (.cons (.keep Z) (.cons (.keep Z) (.cons (.keep Z) (.cons (.keep Z) (.cons (.keep Z) (.cons (.keep Z) (.cons (.keep Z) (.cons (.keep Z) (.cons (.keep Z) .nil)))))))))) (.cons Z .row (.cons Z .row (.cons Z .map (.cons Z .row (.cons Z .row (.cons Z .row (.cons Z (.box (.cons (.keep Z) (.cons (.keep Z) (.cons (.box Z (aI Z)) .nil)))) (.skip .nil))))))))) Z (pN h)
variable {r : List Fr}
theorem xR {g' : Gs} {s : Sm} {a : Int} {x y : Tr} (ih : kx L c frm w g (fD (.st x :: r)) g') : MQ h1 h2 159 [wA frm w 4 5 6, .c (.pt 7 0 0), .c (.pt 8 0 0), .c (.pt 9 0 0)] (iT c g w (Tr.d (.node s a [x, y])) (fD r)) (aV (.tup []) (oT c g' (Tr.d (.node s a [x, y])) (fD r))) := by
 refine MC.shift 500 Z (MC.keep [500,503,507,508,509,510,511] (bs := [iB c g' 510 511 503, aO c.num, pB 500, xB (Tr.d (.node s a [x, y])), xB (fD r), aB g'.paths, aD g'.conds]) Z Z (jH 17 [500,501,502,503,504,505,506,507,508,509] h1 h2 Tryz.func159 Z Z Z Z fun O hF => ?_))
 refine bQ ?_
 refine ag (jx O Z (av ?_))
 refine jn (jG O [_,_,_,_,_,_,_,_,_,_,_,_] [pn [] 0 1, pn [] 0 1, pn [] 0 0, pn [2] 0 0, pn [2,3] 0 0, pn [2,3,4] 0 0, pn (rg 2 4) 0 0, pn (rg 2 5) 0 0, pn [] 0 0, pn (rg 2 7) 0 0, pe (rg 2 8) 0, pe (rg 0 11) 1] [10,11] [_,_,_] [[], [501,502,504,505,506,15]] (ai (ka O Z Z (kw O Z Z)) (ai (ka O Z Z (kw O Z Z)) (ka O Z Z (ka O Z Z (ka O Z Z (ka O Z Z (ai (ai (bD O Z Z Z Z Z Z Z Z (by simp [Trs.d]) Z) Z) (ka O Z Z (ka O Z Z (ka O Z Z (ai (ai (aH (Eff.box O Z Z Z Z Z Z Z Z)) Z) (ai (ai (bO O [500,501,502,503,504,505,506,15] [501,502,504,505,506,15] (bin := [iB c g 1 2 3, aB g.paths, aD g.conds, aO c.num, aG w.vars, aG w.facts, aZ w.ev, s5 (Tr.d x) (.int .i64 0) (fD r)]) Z Z Z Z (pN ih) Z Z Z Z Z (B0 := 17000) Z Z Z Z Z Z Z) Z) trivial)))))))))))) ?_)
 show _ ∧ _
 refine wc ?_
 refine ⟨.inr Z, _, (ae 17010 510 Z Z).trans (ae 17011 511 Z Z), _, Z, Z, Z⟩
theorem xQ {g' : Gs} {s : Sm} {a : Int} {x y : Tr} (ih : kx L c frm w g (fD (.st y :: r)) g') : MQ h1 h2 160 [wA frm w 4 5 6, .c (.pt 7 0 0), .c (.pt 8 0 0), .c (.pt 9 0 0)] (iT c g w (Tr.d (.node s a [x, y])) (fD r)) (aV (.tup []) (oT c g' (Tr.d (.node s a [x, y])) (fD r))) := by
 refine MC.shift 500 Z (MC.keep [500,503,507,508,509,510,511] (bs := [iB c g' 510 511 503, aO c.num, pB 500, xB (Tr.d (.node s a [x, y])), xB (fD r), aB g'.paths, aD g'.conds]) Z Z (jH 17 [500,501,502,503,504,505,506,507,508,509] h1 h2 Tryz.func160 Z Z Z Z fun O hF => ?_))
 refine bQ ?_
 refine ag (jx O Z (av ?_))
 refine jn (jG O [_,_,_,_,_,_,_,_,_,_,_,_] [pn [] 0 1, pn [] 0 1, pn [] 0 0, pn [2] 0 0, pn [2,3] 0 0, pn [2,3,4] 0 0, pn (rg 2 4) 0 0, pn (rg 2 5) 0 0, pn [] 0 0, pn (rg 2 7) 0 0, pe (rg 2 8) 0, pe (rg 0 11) 1] [10,11] [_,_,_] [[], [501,502,504,505,506,15]] (ai (ka O Z Z (kw O Z Z)) (ai (ka O Z Z (kw O Z Z)) (ka O Z Z (ka O Z Z (ka O Z Z (ka O Z Z (ai (ai (bD O Z Z Z Z Z Z Z Z (by simp [Trs.d]) Z) Z) (ka O Z Z (ka O Z Z (ka O Z Z (ai (ai (aH (Eff.box O Z Z Z Z Z Z Z Z)) Z) (ai (ai (bO O [500,501,502,503,504,505,506,15] [501,502,504,505,506,15] (bin := [iB c g 1 2 3, aB g.paths, aD g.conds, aO c.num, aG w.vars, aG w.facts, aZ w.ev, s5 (Tr.d y) (.int .i64 0) (fD r)]) Z Z Z Z (pN ih) Z Z Z Z Z (B0 := 17000) Z Z Z Z Z Z Z) Z) trivial)))))))))))) ?_)
 show _ ∧ _
 refine wc ?_
 refine ⟨.inr Z, _, (ae 17010 510 Z Z).trans (ae 17011 511 Z Z), _, Z, Z, Z⟩
set_option maxHeartbeats 8000000
theorem wj : (Tryz.prog).underlying 92 = some (.map 2 2) := by kernel_rfl
theorem uK : (Tryz.prog).underlying 2 = some (.int .i64) := by kernel_rfl
theorem zK : ((Tryz.prog).info? 2).bind (·.zero) = some (D.val (.int .i64 0)) := by kernel_rfl
abbrev bq (E : Pe) (SS : List (List Tm)) (bd lo be : D) (nm : List (Int × D)) : Pc := ⟨dP E.post, .slc 1 (SS.map fun f => [dP f]), bd, lo, be, nm⟩
structure PcOk (E : Pe) (b : List Sm) (SS : List (List Tm)) (nm : List (Int × D)) : Prop where
  starts : ∀ k, k < b.length → (b.getD k default).kind = 8 → aT b k + 1 < SS.length ∧ SS.getD (aT b k + 1) default = (b.getD k default).facts
  num : ∀ k : Nat, k < b.length → (b.getD k default).kind = 8 → i6 nm (k : Nat) = some (.int .i64 (aT b k : Nat))
structure FX where
  n : Nat
  r : List Fr
  w : Pw
  g : Gs
  c : Nat
structure FI (E : Pe) (b : List Sm) (frm : Int) (N L : Nat) (G : Gs) (x : FX) : Prop where
  pl : ∃ fl i, Pl b fl i x.r
  lt : aF x.r < x.n
  le : x.n ≤ N
  w : WOk x.n x.w
  g : GOk x.c x.g
  bd : x.c + lL (aF x.r) ≤ L
  eq : dH bF E frm x.n x.r x.w x.g = G
def tY (w : Pw) : Tm := if w.sym = 10 then ⟨0, []⟩ else jI w.sym
abbrev x8 (w : Pw) : Pw := ⟨w.vars, w.facts, w.ev, min (w.sym + 1) 10⟩
abbrev s4 (w : Pw) (g : Gs) : Gs := g.flag (decide (w.sym = 10))
theorem vo {L : Nat} (h1 : 4096 ≤ L) (h2 : L ≤ 1073741824) {c : Pc} {g : Gs} {frm : Int} {w : Pw} (hs : w.sym ≤ 10) : MC Tryz.prog L 156 [.c (.pt 0 0 0), .c (.pt 4 0 0)] (iH c g frm w) (aV (cP (tY w)) (iH c (s4 w g) frm (x8 w))) := by
 by_cases h : w.sym = 10
 have e : x8 w = w := by obtain ⟨a, b, c, d⟩ := w; simp only at h; subst h; rfl
 rw [tY, if_pos h, e, s4, decide_eq_true h, im]
 exact sV (fun h => RA.zero h) (vp h1 h2 h)
 have e : min (w.sym + 1) 10 = w.sym + 1 := by omega
 rw [tY, if_neg h, x8, e, s4, decide_eq_false h, fg]
 exact xS h1 h2 (by omega)
theorem uT {la : cB} {s : Sm} {w : Pw} {g : Gs} (h : s.kind = 2) : bu la s w g = (w.set s.var.toNat (aJ s.sum w.vars).1, aS w s.sum g) := if_pos h
theorem uS {la : cB} {s : Sm} {w : Pw} {g : Gs} (h : s.kind = 3) (hs : w.sym ≤ 10) : bu la s w g = (⟨w.vars.set s.var.toNat (tY w), w.facts, w.ev, min (w.sym + 1) 10⟩, s4 w (bV la w s.index g)) := by
 rw [bu, if_neg (by omega), if_pos h]
 by_cases h0 : w.sym = 10
 rw [if_pos h0, tY, if_pos h0, s4, decide_eq_true h0]
 obtain ⟨a, b, c, d⟩ := w; simp only at h0; subst h0; rfl
 rw [if_neg h0, tY, if_neg h0, s4, decide_eq_false h0, fg, kU, show min (w.sym + 1) 10 = w.sym + 1 by omega]
theorem uR {la : cB} {s : Sm} {w : Pw} {g : Gs} (h : s.kind = 4) : bu la s w g = (w, bV la w s.index g) := by
 rw [bu, if_neg (by omega), if_neg (by omega), if_pos h]
theorem uQ {la : cB} {s : Sm} {w : Pw} {g : Gs} (h : s.kind = 5) : bu la s w g = (⟨w.vars, w.facts, w.ev ++ [s.event], w.sym⟩, g) := by
 rw [bu, if_neg (by omega), if_neg (by omega), if_neg (by omega), if_pos h]
theorem uP {la : cB} {s : Sm} {w : Pw} {g : Gs} (h : s.kind = 6) : bu la s w g = (w.fact (aJ s.sum w.vars).1, (cZ w (aJ s.sum w.vars).1 (aS w s.sum g)).flag (w.fact (aJ s.sum w.vars).1).long) := by
 rw [bu, if_neg (by omega), if_neg (by omega), if_neg (by omega), if_neg (by omega), if_pos h, cZ, eE, show (!true) = false from Z, fg]
theorem uU {la : cB} {s : Sm} {w : Pw} {g : Gs} (h2 : ¬ s.kind = 2) (h3 : ¬ s.kind = 3) (h4 : ¬ s.kind = 4) (h5 : ¬ s.kind = 5) (h6 : ¬ s.kind = 6) : bu la s w g = (w, g) := by
 rw [bu, if_neg h2, if_neg h3, if_neg h4, if_neg h5, if_neg h6]
theorem vt {L : Nat} (h1 : 4096 ≤ L) (h2 : L ≤ 1073741824) {E : Pe} {b : List Sm} {SS : List (List Tm)} {bd lo be : D} {nm : List (Int × D)} {frm : Int} {w0 : Pw} {g0 G : Gs} {r0 : List Fr} {N c0 : Nat} (hE : EOk E b) (hbl : b.length ≤ 1000) (hP : PcOk E b SS nm)
  (ih : ∀ n, n < N → ∀ {r : List Fr} {w : Pw} {g : Gs} {c : Nat}, (∃ fl i, Pl b fl i r) → aF r < n → WOk n w → GOk c g → c + lL (aF r) ≤ L → kx L (bq E SS bd lo be nm) frm w g (fD r) (dH bF E frm n r w g))
  (hi0 : FI E b frm N L G ⟨N, r0, w0, g0, c0⟩) : kx L (bq E SS bd lo be nm) frm w0 g0 (fD r0) G := by
 refine MC.shift 500 Z (MC.keep [500,503,510,511] (bs := [iB (bq E SS bd lo be nm) G 510 511 503, aO nm, aB G.paths, aD G.conds]) Z Z (jH 218 [500,501,502,503,504,505,506] h1 h2 Tryz.func112 Z Z Z Z fun O hF => ?_))
 refine bQ ?_
 refine ag (jx O Z (av ?_))
 refine jf [3,1,2] Z (jx O Z (av ?_))
 refine jn (aw (aE (X := FX) (fun x => ⟨[(2, .c (.d (fD x.r))), (3, .c (.pt 3 0 0)), (4, .c (.pt 4 0 0))], [(3, pB 500), (4, iW frm x.w 904 905 906), (500, iB (bq E SS bd lo be nm) x.g 901 902 503), (503, aO nm), (901, aB x.g.paths), (902, aD x.g.conds), (904, aG x.w.vars), (905, aG x.w.facts), (906, aZ x.w.ev)]⟩) (fun x => FI E b frm N L G x) (fun x => x.n) ⟨N, r0, w0, g0, c0⟩ (((((((au [3,4,500,503,501,502,504,505,506] (e' := [(2, _), (3, _), (4, _)]) Z Z ⟨Z, Z, Z, trivial⟩ Z).trans (ae 501 901 Z Z)).trans (ae 502 902 Z Z)).trans (ae 504 904 Z Z)).trans (ae 505 905 Z Z)).trans (ae 506 906 Z Z)).trans (Ent.to ⟨Z, Z, Z, trivial⟩ Z)) ?_ (fun x hi => ?_)))
 exact hi0
 obtain ⟨n, r, w, g, cc⟩ := x
 obtain ⟨⟨fl, i0, hp⟩, hlt, hle, hw, hg, hbd, hG⟩ := hi
 dsimp only at hp hlt hle hw hg hbd hG
 refine kK (Ent.to (e' := [(2, .c (.d (fD r))), (3, .c (.pt 3 0 0)), (4, .c (.pt 4 0 0))]) (H' := [(3, pB 500), (4, iW frm w 904 905 906), (500, iB (bq E SS bd lo be nm) g 901 902 503), (503, aO nm), (901, aB g.paths), (902, aD g.conds), (904, aG w.vars), (905, aG w.facts), (906, aZ w.ev)]) ⟨Z, Z, Z, trivial⟩ Z) ?_
 obtain ⟨n, rfl⟩ : ∃ m, n = m + 1 := ⟨n - 1, by omega⟩
 have hge := oH (m := aF r)
 have hgc := hg.conds
 have hgp := hg.paths
 have hva := mP hw.ctx hw.vars
 have hv4 := hw.vars
 have hfa := hw.facts
 have hev := hw.ev
 have hsy := hw.sym
 refine ah (ag (j4 O Z Z Z Z (j2 O Z Z (jf [15,2,3,4] Z (jn (af O Z Z (fun hc15 => ?_) (fun hc15 => ?_)))))))
 refine an ?_
 cases hp with
 | nil =>
  have hb : g.bad = false := by simpa using hc15
  refine aw (ah (ag (j2 O Z Z (jn (af O Z Z (fun hc17 => ?_) (fun hc17 => ?_))))))
  refine ah (jG O [_,_,_,_,_,_,_,_,_] [pn [] 0 0, pn [0] 0 0, pn [0,1] 0 0, pn [] 0 0, pn [3] 0 0, pn [3,4] 0 0, pn [3,4,5] 0 0, pn (rg 3 4) 0 0, pe (rg 0 8) 0] [8] [_,_] [[901,902]] (ka O Z Z (ka O Z Z (ka O Z Z (ka O Z Z (ka O Z Z (ka O Z Z (ka O Z Z (ka O Z Z (ai (ai (bO O [500,901,902,503,4,904,905,906] [901,902] (bin := [iB (bq E SS bd lo be nm) g 1 2 3, aB g.paths, aD g.conds, aO nm, iW frm w 5 6 7, aG w.vars, aG w.facts, aZ w.ev]) Z Z Z Z (rI (c := (bq E SS bd lo be nm)) (g := g) (frm := frm) (w := w) (to := -1) (fs := E.post) h1 h2 hw.ctx hw.vars hE.post.1 (by have := hE.post.2; omega) (by omega)) Z Z Z Z Z (B0 := 27000) Z Z Z Z Z Z Z) Z) trivial))))))))) ?_)
  refine jw [17,16,15,2,3,4] Z (bQ ?_)
  refine fK ?_
  rw [← hG, eN hb]
  refine ⟨.inl Z, _, (ae 27009 510 Z Z).trans (ae 27008 511 Z Z), _, Z, Z, Z⟩
  cases hc17
 | @lp i k r hi hs hk h8 =>
  have hb : g.bad = false := by simpa using hc15
  obtain ⟨hs1, hs2⟩ := hP.starts _ hk h8
  have hf := fz (hE.st _ hk)
  have hlf := hE.lf _ hk h8
  have hnk := dL (b := b) (k := k)
  refine aw (ah (ag (j2 O Z Z (jn (af O Z Z (fun hc17 => ?_) (fun hc17 => ?_))))))
  cases hc17
  refine an (ah (ag (j4 O Z Z Z Z (js O Z (jf [31,17,16,15,2,3,4] Z (jn (af O Z Z (fun hc31 => ?_) (fun hc31 => ?_))))))))
  refine ah (jG O [_,_,_,_,_,_,_,_,_,_,_,_,_,_,_,_,_,_,_,_] [pn [] 0 0, pn [0] 0 0, pn [0,1] 0 0, pn [] 0 0, pn [3] 0 0, pn [3,4] 0 0, pn [3,4,5] 0 0, pn [] 0 0, pn [7] 0 0, pn [7,8] 0 0, pn [7,8,9] 0 0, pn (rg 7 4) 0 0, pn [] 0 0, pn [12] 0 0, pn [12,13] 0 0, pn [12,13,14] 0 0, pn (rg 12 4) 0 0, pn (rg 7 10) 0 0, pn (rg 7 11) 0 0, pe (rg 0 19) 0] [19] [_,_] [[901,902]] (ka O Z Z (ka O Z Z (ka O Z Z (ka O Z Z (ka O Z Z (ka O Z Z (ka O Z Z (ka O Z Z (ka O Z Z (ka O Z Z (ka O Z Z (ka O Z Z (ka O Z Z (ka O Z Z (ka O Z Z (ka O Z Z (ai (ai ((vF O Z).cast (v' := eI ((aT b k + 1 : Nat) : Int)) (congrArg eI (by omega))) Z) (ai (ai ((aR O Z Z Z Z Z Z Z Z (c5 hs1)).cast (v' := ptr [dP (b.getD k default).facts]) (by rw [hs2])) Z) (ka O Z Z (ai (ai (bO O [500,901,902,503,4,904,905,906] [901,902] (bin := [iB (bq E SS bd lo be nm) g 1 2 3, aB g.paths, aD g.conds, aO nm, iW frm w 5 6 7, aG w.vars, aG w.facts, aZ w.ev]) Z Z Z Z (rI (c := (bq E SS bd lo be nm)) (g := g) (frm := frm) (w := w) (to := (aT b k : Nat)) (fs := (b.getD k default).facts) h1 h2 hw.ctx hw.vars hf.1 (by have := hf.2; omega) (by omega)) Z Z Z Z Z (B0 := 52000) Z Z Z Z Z Z Z) Z) trivial)))))))))))))))))))) ?_)
  refine jw [31,17,16,15,2,3,4] Z (bQ ?_)
  refine fK ?_
  rw [← hG, f7 hb, hlf]
  refine ⟨.inl Z, _, (ae 52009 510 Z Z).trans (ae 52008 511 Z Z), _, Z, Z, Z⟩
  cases hc31
 | @leaf i k r hi hs hk h0 h =>
  have hb : g.bad = false := by simpa using hc15
  have hst := hE.st _ hk
  have htm := g9 hst
  have hne := fF h0
  generalize hs0 : b.getD k default = s at hst htm hG hlt hbd hge hne ⊢
  have hbl2 := lm (m := aF r)
  simp only [aF, Fr.nodes, Tr.nodes, Trs.nodes, Nat.add_zero, Nat.add_comm 1] at hlt hbd hge
  rw [dO hb] at hG
  refine aw (ah (ag (j2 O Z Z (jn (af O Z Z (fun hc17 => ?_) (fun hc17 => ?_))))))
  cases hc17
  refine an (ah (ag (j4 O Z Z Z Z (js O Z (jf [31,17,16,15,2,3,4] Z (jn (af O Z Z (fun hc31 => ?_) (fun hc31 => ?_))))))))
  cases hc31
  refine an (ah (pE O [_,_,_,_,_,_,_,_,_,_,_,_] [pn [] 0 1, pn [0] 0 1, pn [0,1] 0 1, pn [0,1,2] 0 1, pn [] 0 2, pn [4] 0 2, pn [4,5] 0 2, pn [4,5,6] 0 2, pn [] 0 1, pe [] 0, pe [0,1,2,3,8,9] 1, pe [0,1,2,3,4,5,6,7,8,9,10] 2] [9,10,11] 8 6 (.box [.d .nilp]) [_,_] [_,_] [] (ai (kf O Z Z Z (kg O Z Z Z)) (ai (kf O Z Z Z (kg O Z Z Z)) (ai (kf O Z Z Z (kg O Z Z Z)) (ai (kf O Z Z Z (kg O Z Z Z)) (ai (kf O Z Z Z (kf O Z Z Z (kg O Z Z Z))) (ai (kf O Z Z Z (kf O Z Z Z (kg O Z Z Z))) (ai (kf O Z Z Z (kf O Z Z Z (kg O Z Z Z))) (ai (kf O Z Z Z (kf O Z Z Z (kg O Z Z Z))) (ai (ai (ai (aH (Eff.alloc O Z Z Z Z Z Z)) Z) (ai (aH (Eff.alloc O Z Z Z Z Z Z)) Z)) (ai (ai (ay (aH (Eff.alloc O Z Z Z Z Z Z)) (aH (Eff.alloc O Z Z Z Z Z Z))) Z) (ai (ai (ay trivial (aH (eS O Z Z Z))) Z) (ai (ai (ay trivial (aH (eS O Z Z Z))) Z) trivial)))))))))))) ?_))
  refine jw [7,6,31,17,16,15,2,3,4] Z (bQ ?_)
  refine ah (ag (j4 O Z Z Z Z (js O Z (jf [64,7,6,31,17,16,15,2,3,4] Z (jn ?_)))))
  obtain ⟨d, ed⟩ : ∃ d, d = bu bF s w g := ⟨_, rfl⟩
  refine jg ⟨[(3, .c (.pt 3 0 0)), (4, .c (.pt 4 0 0)), (7, .c (.pt 7 0 0))], [(3, pB 500), (7, xB (fD r)), (4, iW frm d.1 904 905 906), (500, iB (bq E SS bd lo be nm) d.2 901 902 503), (503, aO nm), (901, aB d.2.paths), (902, aD d.2.conds), (904, aG d.1.vars), (905, aG d.1.facts), (906, aZ d.1.ev)]⟩ ?_ ?_
  refine aw (ag (j2 O Z Z (jn (af O Z Z (fun hc65 => ?_) (fun hc65 => ?_)))))
  exact absurd (bp hc65) (by omega)
  refine ag (j2 O Z Z (jn (af O Z Z (fun hc84 => ?_) (fun hc84 => ?_))))
  have hsv2 := ox hst (.inl (bp hc84))
  refine gv O [_,_,_,_,_,_,_,_,_,_,_,_,_,_,_,_,_,_] [pn [] 0 1, pn [0] 0 1, pn [] 0 1, pn [2] 0 1, pn [2,3] 0 1, pn [2,3,4] 0 1, pn (rg 2 4) 0 1, pn [] 0 0, pn [7] 0 0, pn [7,8] 0 0, pn [] 0 0, pn [10] 0 0, pn [10,11] 0 0, pn [10,11,12] 0 0, pn (rg 10 4) 0 0, pe (rg 7 8) 0, pn (rg 0 16) 1 1, pe (rg 0 17) 1] [15,17] [_, [(3, pB 500), (6, xB (Tr.d (.node s (k : Nat) []))), (7, xB (fD r)), (500, iB (bq E SS bd lo be nm) (aS w s.sum g) 901 902 503), (901, aB (aS w s.sum g).paths), (902, aD (aS w s.sum g).conds), (503, aO nm), (4, iW frm w 904 905 906), (904, aG w.vars), (905, aG w.facts), (906, aZ w.ev)], _] (ai (kc O Z (V O Z)) (ai (kc O Z (V O Z)) (ai (kc O Z (V O Z)) (ai (kc O Z (V O Z)) (ai (kc O Z (V O Z)) (ai (kc O Z (V O Z)) (ai (kc O Z (V O Z)) (kc O Z (kc O Z (kc O Z (kc O Z (kc O Z (kc O Z (kc O Z (kc O Z (ai (bE O [500,901,902,503,4,904,905,906] (bin := [iB (bq E SS bd lo be nm) g 1 2 3, aB g.paths, aD g.conds, aO nm, iW frm w 5 6 7, aG w.vars, aG w.facts, aZ w.ev]) Z Z Z Z (j6 (c := (bq E SS bd lo be nm)) (frm := frm) (w := w) (g := g) (t := s.sum) h1 h2 htm.1.1 hva (by have := htm.1.2; omega)) Z Z Z Z Z (B0 := 102000) Z Z Z Z Z Z) (ai (vI O Z Z) (ai (cg (ex := Tm.cells (w.vars.getD s.var.toNat default)) (xs' := (w.vars.set s.var.toNat (aJ s.sum w.vars).1).map Tm.cells) O Z Z Z Z Z Z Z Z Z Z Z Z Z Z Z (we (by omega) (by omega)) (v9 (v := (aJ s.sum w.vars).1) (by omega) Z) Z) trivial)))))))))))))))))) ?_
  rw [ed, uT (bp hc84)]
  refine vU ?_
  exact ⟨Z, (au [3,7,4,500,503,901,902,904,905,906] (e' := [(3, _), (4, _), (7, _)]) Z Z ⟨Z, Z, Z, trivial⟩ Z).trans (Ent.to ⟨Z, Z, Z, trivial⟩ (by simp only [Pw.set, iW, List.length_set]; rfl))⟩
  refine ag (j2 O Z Z (jn (af O Z Z (fun hc103 => ?_) (fun hc103 => ?_))))
  refine ah (jG O [_,_,_,_,_,_,_,_,_,_,_,_,_] [pn [] 0 1, pn [0] 0 1, pn [0,1] 0 1, pn [] 0 0, pn [3] 0 0, pn [3,4] 0 0, pn [] 0 0, pn [6] 0 0, pn [6,7] 0 0, pn [6,7,8] 0 0, pn (rg 6 4) 0 0, pe (rg 3 8) 0, pe (rg 0 12) 1] [11,12] [_, [(3, pB 500), (6, xB (Tr.d (.node s (k : Nat) []))), (7, xB (fD r)), (500, iB (bq E SS bd lo be nm) (aS w s.index g) 901 902 503), (901, aB (aS w s.index g).paths), (902, aD (aS w s.index g).conds), (503, aO nm), (4, iW frm w 904 905 906), (904, aG w.vars), (905, aG w.facts), (906, aZ w.ev)], [(3, pB 500), (6, xB (Tr.d (.node s (k : Nat) []))), (7, xB (fD r)), (500, iB (bq E SS bd lo be nm) (bV bF w s.index g) 901 118008 503), (901, aB (bV bF w s.index g).paths), (503, aO nm), (4, iW frm w 904 905 906), (904, aG w.vars), (905, aG w.facts), (906, aZ w.ev), (118008, aD (bV bF w s.index g).conds)]] [[], [902]] (ai (ka O Z Z (kw O Z Z)) (ai (ka O Z Z (kw O Z Z)) (ai (ka O Z Z (kw O Z Z)) (ka O Z Z (ka O Z Z (ka O Z Z (ka O Z Z (ka O Z Z (ka O Z Z (ka O Z Z (ka O Z Z (ai (ai (aH (bE O [500,901,902,503,4,904,905,906] (bin := [iB (bq E SS bd lo be nm) g 1 2 3, aB g.paths, aD g.conds, aO nm, iW frm w 5 6 7, aG w.vars, aG w.facts, aZ w.ev]) Z Z Z Z (j6 (c := (bq E SS bd lo be nm)) (frm := frm) (w := w) (g := g) (t := s.index) h1 h2 htm.2.1 hva (by have := htm.2.2; omega)) Z Z Z Z Z (B0 := 117000) Z Z Z Z Z Z)) Z) (ai (ai (bO O [500,901,902,503,4,904,905,906] [902] (bin := [iB (bq E SS bd lo be nm) (aS w s.index g) 1 2 3, aB (aS w s.index g).paths, aD (aS w s.index g).conds, aO nm, iW frm w 5 6 7, aG w.vars, aG w.facts, aZ w.ev]) Z Z Z Z (ug (c := (bq E SS bd lo be nm)) (frm := frm) (w := w) (g := (aS w s.index g)) (t := (aJ s.index w.vars).1) h1 h2 eE (show g.conds.length + 2 ≤ L by omega)) Z Z Z Z Z (B0 := 118000) Z Z Z Z Z Z Z) Z) trivial))))))))))))) ?_)
  refine jw [103,104,84,85,65,66,64,7,6,31,17,16,15,2,3,4] Z (bQ ?_)
  have hsv2 := ox hst (.inr (bp hc103))
  refine gv O [_,_,_,_,_,_,_,_,_,_,_,_,_] [pn [] 0 1, pn [0] 0 1, pn [] 0 1, pn [2] 0 1, pn [2,3] 0 1, pn [2,3,4] 0 1, pn (rg 2 4) 0 1, pn [] 0 0, pn [7] 0 0, pn [7,8] 0 0, pe [7,8,9] 0, pn (rg 0 11) 1 1, pe (rg 0 12) 1] [10,12] [_, [(3, pB 500), (6, xB (Tr.d (.node s (k : Nat) []))), (7, xB (fD r)), (500, iB (bq E SS bd lo be nm) (s4 w (bV bF w s.index g)) 901 118008 503), (901, aB (s4 w (bV bF w s.index g)).paths), (118008, aD (s4 w (bV bF w s.index g)).conds), (503, aO nm), (4, iW frm (x8 w) 904 905 906), (904, aG w.vars), (905, aG w.facts), (906, aZ w.ev)], _] (ai (kc O Z (V O Z)) (ai (kc O Z (V O Z)) (ai (kc O Z (V O Z)) (ai (kc O Z (V O Z)) (ai (kc O Z (V O Z)) (ai (kc O Z (V O Z)) (ai (kc O Z (V O Z)) (kc O Z (kc O Z (kc O Z (ai (bE O [500,901,118008,503,4,904,905,906] (bin := [iB (bq E SS bd lo be nm) (bV bF w s.index g) 1 2 3, aB (bV bF w s.index g).paths, aD (bV bF w s.index g).conds, aO nm, iW frm w 5 6 7, aG w.vars, aG w.facts, aZ w.ev]) Z Z Z Z (vo (c := (bq E SS bd lo be nm)) (frm := frm) (w := w) (g := (bV bF w s.index g)) h1 h2 hsy) Z Z Z Z Z (B0 := 129000) Z Z Z Z Z Z) (ai (vI O Z Z) (ai (cg (ex := Tm.cells (w.vars.getD s.var.toNat default)) (xs' := (w.vars.set s.var.toNat (tY w)).map Tm.cells) O Z Z Z Z Z Z Z Z Z Z Z Z Z Z Z (we (by omega) (by omega)) (v9 (v := (tY w)) (by omega) Z) Z) trivial))))))))))))) ?_
  rw [ed, uS (bp hc103) hw.sym]
  refine vU ?_
  exact ⟨Z, ((au [3,7,4,500,503,901,118008,904,905,906] (e' := [(3, _), (4, _), (7, _)]) Z Z ⟨Z, Z, Z, trivial⟩ Z).trans (ae 118008 902 Z Z)).trans (Ent.to ⟨Z, Z, Z, trivial⟩ (by simp only [Pw.set, iW, List.length_set]; rfl))⟩
  refine ag (j2 O Z Z (jn (af O Z Z (fun hc130 => ?_) (fun hc130 => ?_))))
  refine jG O [_,_,_,_,_,_,_,_,_,_,_,_,_] [pn [] 0 1, pn [0] 0 1, pn [0,1] 0 1, pn [] 0 0, pn [3] 0 0, pn [3,4] 0 0, pn [] 0 0, pn [6] 0 0, pn [6,7] 0 0, pn [6,7,8] 0 0, pn (rg 6 4) 0 0, pe (rg 3 8) 0, pe (rg 0 12) 1] [11,12] [_, [(3, pB 500), (6, xB (Tr.d (.node s (k : Nat) []))), (7, xB (fD r)), (500, iB (bq E SS bd lo be nm) (aS w s.index g) 901 902 503), (901, aB (aS w s.index g).paths), (902, aD (aS w s.index g).conds), (503, aO nm), (4, iW frm w 904 905 906), (904, aG w.vars), (905, aG w.facts), (906, aZ w.ev)], [(3, pB 500), (6, xB (Tr.d (.node s (k : Nat) []))), (7, xB (fD r)), (500, iB (bq E SS bd lo be nm) (bV bF w s.index g) 901 145008 503), (901, aB (bV bF w s.index g).paths), (503, aO nm), (4, iW frm w 904 905 906), (904, aG w.vars), (905, aG w.facts), (906, aZ w.ev), (145008, aD (bV bF w s.index g).conds)]] [[], [902]] (ai (ka O Z Z (kw O Z Z)) (ai (ka O Z Z (kw O Z Z)) (ai (ka O Z Z (kw O Z Z)) (ka O Z Z (ka O Z Z (ka O Z Z (ka O Z Z (ka O Z Z (ka O Z Z (ka O Z Z (ka O Z Z (ai (ai (aH (bE O [500,901,902,503,4,904,905,906] (bin := [iB (bq E SS bd lo be nm) g 1 2 3, aB g.paths, aD g.conds, aO nm, iW frm w 5 6 7, aG w.vars, aG w.facts, aZ w.ev]) Z Z Z Z (j6 (c := (bq E SS bd lo be nm)) (frm := frm) (w := w) (g := g) (t := s.index) h1 h2 htm.2.1 hva (by have := htm.2.2; omega)) Z Z Z Z Z (B0 := 144000) Z Z Z Z Z Z)) Z) (ai (ai (bO O [500,901,902,503,4,904,905,906] [902] (bin := [iB (bq E SS bd lo be nm) (aS w s.index g) 1 2 3, aB (aS w s.index g).paths, aD (aS w s.index g).conds, aO nm, iW frm w 5 6 7, aG w.vars, aG w.facts, aZ w.ev]) Z Z Z Z (ug (c := (bq E SS bd lo be nm)) (frm := frm) (w := w) (g := (aS w s.index g)) (t := (aJ s.index w.vars).1) h1 h2 eE (show g.conds.length + 2 ≤ L by omega)) Z Z Z Z Z (B0 := 145000) Z Z Z Z Z Z Z) Z) trivial))))))))))))) ?_
  rw [ed, uR (bp hc130)]
  refine vU ?_
  exact ⟨Z, ((au [3,7,4,500,503,901,145008,904,905,906] (e' := [(3, _), (4, _), (7, _)]) Z Z ⟨Z, Z, Z, trivial⟩ Z).trans (ae 145008 902 Z Z)).trans (Ent.to ⟨Z, Z, Z, trivial⟩ Z)⟩
  refine ag (j2 O Z Z (jn (af O Z Z (fun hc145 => ?_) (fun hc145 => ?_))))
  refine jG O [_,_,_,_,_,_,_,_,_,_,_] [pn [] 0 1, pn [0] 0 1, pn [] 0 0, pn [2] 0 0, pn [2,3] 0 0, pn [2,3,4] 0 0, pn (rg 2 4) 0 0, pe (rg 2 5) 0, pe (rg 0 8) 1, pn (rg 0 9) 2 2, pe (rg 0 10) 2] [7,8,10] [_,_,_,_] [[], [906], []] (ai (ka O Z Z (kw O Z Z)) (ai (ka O Z Z (kw O Z Z)) (ka O Z Z (ka O Z Z (ka O Z Z (ka O Z Z (ka O Z Z (ai (ai (aH (du O Z Z Z Z Z Z Z Z Z Z Z Z Z Z)) Z) (ai (ai (ci (own := true) (xs := w.ev.map (fun n => [D.int .i64 n])) (ys := [[.int .i64 s.event]]) (zs := (w.ev ++ [s.event]).map (fun n => [D.int .i64 n])) (n := (w.ev ++ [s.event]).length) O Z Z Z Z Z Z Z Z Z Z Z Z Z Z Z Z (.row Z (cY _).symm) (.whole Z Z (.inl (by simp [Scal, D.scalar]))) (by simp) Z (by simp; omega) (by simp; omega) (by simp) (by simp) Z) Z) (ka O Z Z (ai (ai (aH (eS O Z Z Z)) Z) trivial))))))))))) ?_
  rw [ed, uQ (bp hc145)]
  refine vU ?_
  exact ⟨Z, ((au [3,7,4,500,503,901,902,904,905,155] (e' := [(3, _), (4, _), (7, _)]) Z Z ⟨Z, Z, Z, trivial⟩ Z).trans (ae 155 906 Z Z)).trans (Ent.to ⟨Z, Z, Z, trivial⟩ Z)⟩
  refine ag (j2 O Z Z (jn (af O Z Z (fun hc157 => ?_) (fun hc157 => ?_))))
  refine ah (pE O [_,_,_,_,_,_,_,_,_,_,_] [pn [] 0 0, pn [0] 0 0, pn [0,1] 0 0, pn [] 0 0, pn [3] 0 0, pn [3,4] 0 0, pn [3,4,5] 0 0, pn [3,4,5,6] 0 0, pe [0,1,2,3,4,5,6,7] 0, pn [] 0 1, pe [0,1,2,3,4,5,6,7,8,9] 1] [8,10] 9 8 (.box [.d (.int .i64 0), .d .nils]) [_, [(3, pB 500), (6, xB (Tr.d (.node s (k : Nat) []))), (7, xB (fD r)), (500, iB (bq E SS bd lo be nm) (aS w s.sum g) 901 902 503), (901, aB (aS w s.sum g).paths), (902, aD (aS w s.sum g).conds), (503, aO nm), (4, iW frm w 904 905 906), (904, aG w.vars), (905, aG w.facts), (906, aZ w.ev)]] [_] [] (kf O Z Z Z (kf O Z Z Z (kf O Z Z Z (kf O Z Z Z (kf O Z Z Z (kf O Z Z Z (kf O Z Z Z (kf O Z Z Z (ai (ai (ay (aH (bE O [500,901,902,503,4,904,905,906] (bin := [iB (bq E SS bd lo be nm) g 1 2 3, aB g.paths, aD g.conds, aO nm, iW frm w 5 6 7, aG w.vars, aG w.facts, aZ w.ev]) Z Z Z Z (j6 (c := (bq E SS bd lo be nm)) (frm := frm) (w := w) (g := g) (t := s.sum) h1 h2 htm.1.1 hva (by have := htm.1.2; omega)) Z Z Z Z Z (B0 := 168000) Z Z Z Z Z Z)) (aH (bE O [500,901,902,503,4,904,905,906] (bin := [iB (bq E SS bd lo be nm) g 1 2 3, aB g.paths, aD g.conds, aO nm, iW frm w 5 6 7, aG w.vars, aG w.facts, aZ w.ev]) Z Z Z Z (j6 (c := (bq E SS bd lo be nm)) (frm := frm) (w := w) (g := g) (t := s.sum) h1 h2 htm.1.1 hva (by have := htm.1.2; omega)) Z Z Z Z Z (B0 := 168000) Z Z Z Z Z Z))) Z) (ai (ai (ai (aH (Eff.alloc O Z Z Z Z Z Z)) Z) (ai (aH (Eff.alloc O Z Z Z Z Z Z)) Z)) (ai (ai (ay trivial (aH (eS O Z Z Z))) Z) trivial))))))))))) ?_)
  refine jw [8,157,158,145,146,130,131,103,104,84,85,65,66,64,7,6,31,17,16,15,2,3,4] Z (bQ ?_)
  refine ah (jG O [_,_,_,_,_] [pn [] 0 0, pn [0] 0 0, pn [0,1] 0 0, pn [] 0 0, pe (rg 0 4) 0] [4] [_,_] [[902]] (ka O Z Z (ka O Z Z (ka O Z Z (ka O Z Z (ai (ai (bO O [500,901,902,503,4,904,905,906] [902] (bin := [iB (bq E SS bd lo be nm) (aS w s.sum g) 1 2 3, aB (aS w s.sum g).paths, aD (aS w s.sum g).conds, aO nm, iW frm w 5 6 7, aG w.vars, aG w.facts, aZ w.ev]) Z Z Z Z (pX (c := (bq E SS bd lo be nm)) (frm := frm) (w := w) (g := (aS w s.sum g)) (t := (aJ s.sum w.vars).1) h1 h2 (show g.conds.length + 1 ≤ L by omega)) Z Z Z Z Z (B0 := 173000) Z Z Z Z Z Z Z) Z) trivial))))) ?_)
  refine jw [8,157,158,145,146,130,131,103,104,84,85,65,66,64,7,6,31,17,16,15,2,3,4] Z (bQ ?_)
  refine jG O [_,_,_,_,_] [pn [] 0 0, pn [0] 0 0, pn [0,1] 0 0, pn [] 0 0, pe (rg 0 4) 0] [4] [_,_] [[905]] (ka O Z Z (ka O Z Z (ka O Z Z (ka O Z Z (ai (ai (bO O [500,901,173008,503,4,904,905,906] [905] (bin := [iB (bq E SS bd lo be nm) (cZ w (aJ s.sum w.vars).1 (aS w s.sum g)) 1 2 3, aB (cZ w (aJ s.sum w.vars).1 (aS w s.sum g)).paths, aD (cZ w (aJ s.sum w.vars).1 (aS w s.sum g)).conds, aO nm, iW frm w 5 6 7, aG w.vars, aG w.facts, aZ w.ev]) Z Z Z Z (pW (c := (bq E SS bd lo be nm)) (frm := frm) (w := w) (g := cZ w (aJ s.sum w.vars).1 (aS w s.sum g)) (t := (aJ s.sum w.vars).1) h1 h2 (by omega)) Z Z Z Z Z (B0 := 178000) Z Z Z Z Z Z Z) Z) trivial))))) ?_
  rw [ed, uP (bp hc157)]
  refine vU ?_
  exact ⟨Z, (((au [3,7,4,500,503,901,173008,904,178009,906] (e' := [(3, _), (4, _), (7, _)]) Z Z ⟨Z, Z, Z, trivial⟩ Z).trans (ae 173008 902 Z Z)).trans (ae 178009 905 Z Z)).trans (Ent.to ⟨Z, Z, Z, trivial⟩ Z)⟩
  refine ag (j2 O Z Z (jn (af O Z Z (fun hc178 => ?_) (fun hc178 => ?_))))
  exact absurd (bp hc178) (by omega)
  refine ag (j2 O Z Z (jn (af O Z Z (fun hc196 => ?_) (fun hc196 => ?_))))
  exact absurd (bp hc196) (by omega)
  refine an ?_
  rw [ed, uU (ch hc84) (ch hc103) (ch hc130) (ch hc145) (ch hc157)]
  refine vU ?_
  exact ⟨Z, (au [3,7,4,500,503,901,902,904,905,906] (e' := [(3, _), (4, _), (7, _)]) Z Z ⟨Z, Z, Z, trivial⟩ Z).trans (Ent.to ⟨Z, Z, Z, trivial⟩ Z)⟩
  refine am (j2 O Z Z (jn ?_))
  exact ⟨⟨n, r, d.1, d.2, cc + 2⟩, ((au [3,4,500,503,901,902,904,905,906] (e' := [(2, _), (3, _), (4, _)]) Z Z ⟨Z, Z, Z, trivial⟩ Z)).trans (Ent.to ⟨Z, Z, Z, trivial⟩ Z), ⟨⟨fl, _, h⟩, by show aF r < n; omega, by show n ≤ N; omega, ed ▸ hw.leaf, ed ▸ mW hg, by show cc + 2 + lL (aF r) ≤ L; omega, ed ▸ hG⟩, Nat.lt_succ_self n⟩
 | @seq i k x y r hk1 h =>
  have hb : g.bad = false := by simpa using hc15
  generalize hs0 : b.getD k default = s at hk1 hG hlt hbd hge ⊢
  rw [eM hb hk1] at hG
  refine aw (ah (ag (j2 O Z Z (jn (af O Z Z (fun hc17 => ?_) (fun hc17 => ?_))))))
  cases hc17
  refine an (ah (ag (j4 O Z Z Z Z (js O Z (jf [31,17,16,15,2,3,4] Z (jn (af O Z Z (fun hc31 => ?_) (fun hc31 => ?_))))))))
  cases hc31
  refine an (ah (pE O [_,_,_,_,_,_,_,_,_,_,_,_] [pn [] 0 1, pn [0] 0 1, pn [0,1] 0 1, pn [0,1,2] 0 1, pn [] 0 2, pn [4] 0 2, pn [4,5] 0 2, pn [4,5,6] 0 2, pn [] 0 1, pe [] 0, pe [0,1,2,3,8,9] 1, pe [0,1,2,3,4,5,6,7,8,9,10] 2] [9,10,11] 8 6 (.box [.d .nilp]) [_,_] [_,_] [] (ai (kf O Z Z Z (kg O Z Z Z)) (ai (kf O Z Z Z (kg O Z Z Z)) (ai (kf O Z Z Z (kg O Z Z Z)) (ai (kf O Z Z Z (kg O Z Z Z)) (ai (kf O Z Z Z (kf O Z Z Z (kg O Z Z Z))) (ai (kf O Z Z Z (kf O Z Z Z (kg O Z Z Z))) (ai (kf O Z Z Z (kf O Z Z Z (kg O Z Z Z))) (ai (kf O Z Z Z (kf O Z Z Z (kg O Z Z Z))) (ai (ai (ai (aH (Eff.alloc O Z Z Z Z Z Z)) Z) (ai (aH (Eff.alloc O Z Z Z Z Z Z)) Z)) (ai (ai (ay (aH (Eff.alloc O Z Z Z Z Z Z)) (aH (Eff.alloc O Z Z Z Z Z Z))) Z) (ai (ai (ay trivial (aH (eS O Z Z Z))) Z) (ai (ai (ay trivial (aH (eS O Z Z Z))) Z) trivial)))))))))))) ?_))
  refine jw [7,6,31,17,16,15,2,3,4] Z (bQ ?_)
  refine ah (ag (j4 O Z Z Z Z (js O Z (jf [64,7,6,31,17,16,15,2,3,4] Z (jn (aw (ag (j2 O Z Z (jn (af O Z Z (fun hc65 => ?_) (fun hc65 => ?_)))))))))))
  refine gv O [_,_,_,_,_,_,_,_,_,_,_,_,_,_,_,_,_,_] [pn [] 0 1, pn [0] 0 1, pn [0,1] 0 1, pn [0,1,2] 0 1, pn (rg 0 4) 0 1, pn (rg 0 5) 0 1, pn [] 0 0, pn [6] 0 0, pn [6,7] 0 0, pn [6,7,8] 0 0, pn (rg 6 4) 0 0, pn (rg 6 5) 0 0, pn [] 0 0, pn (rg 6 7) 0 0, pe (rg 6 8) 0, pn (rg 0 15) 1 1, pe (rg 0 16) 1, pe (rg 0 17) 2] [14,16,17] [_,_,_,_] (ai (kc O Z (V O Z)) (ai (kc O Z (V O Z)) (ai (kc O Z (V O Z)) (ai (kc O Z (V O Z)) (ai (ai (bD O Z Z Z Z Z Z Z Z (by simp [Trs.d]) Z) (bD O Z Z Z Z Z Z Z Z (by simp [Trs.d]) Z)) (ai (kc O Z (V O Z)) (kc O Z (kc O Z (kc O Z (kc O Z (ai (bD O Z Z Z Z Z Z Z Z (by simp [Trs.d]) Z) (kc O Z (kc O Z (kc O Z (ai (Eff.box O Z Z Z Z Z Z Z Z) (kc O Z (ai (Eff.box O Z Z Z Z Z Z Z Z) (ai (eS O Z Z Z) trivial)))))))))))))))))) ?_
  refine jw [65,66,64,7,6,31,17,16,15,2,3,4] Z (bQ ?_)
  refine am (aj (Ent.freeze 81 (e' := [(2, _), (3, _), (4, _), (7, _)]) Z (fe [2,3,4,7] Z) (.cons Z (.box (fk Z)) (.cons Z (.box (fk Z)) (.cons Z (.box (fk Z)) (.cons Z (.box (fk Z)) (.skip (.cons Z (.box (.cons (.keep Z) (.cons (.keep Z) (.cons (.box (cs := [y.d, .int .i64 0, fD r]) Z (aI Z)) .nil)))) (.cons Z (.box (fk Z)) (.cons Z .map (.cons Z .row (.cons Z .row (.cons Z .row (.cons Z .row (.cons Z .row .nil)))))))))))))) ?_)
  refine aj (Ent.freeze 83 (e' := [(2, _), (3, _), (4, _), (7, _)]) Z (fe [2,3,4,7] Z) (.cons Z (.box (fk Z)) (.cons Z (.box (fk Z)) (.cons Z (.box (fk Z)) (.cons Z (.box (.cons (.box (cs := [x.d, .int .i64 0, .ptr [y.d, .int .i64 0, fD r] 0]) Z (aI Z)) .nil)) (.skip (.cons Z (.box (fk Z)) (.cons Z .map (.cons Z .row (.cons Z .row (.cons Z .row (.cons Z .row (.cons Z .row .nil))))))))))))) ?_
  refine j2 O Z Z (jn ?_)
  exact ⟨⟨n, .st x :: .st y :: r, w, g, cc⟩, ((au [3,4,500,503,901,902,904,905,906] (e' := [(2, _), (3, _), (4, _)]) Z Z ⟨Z, Z, Z, trivial⟩ Z)).trans (Ent.to ⟨Z, Z, Z, trivial⟩ Z), ⟨⟨fl, _, h⟩, by simp only [aF, Fr.nodes, Tr.nodes, Trs.nodes] at hlt ⊢; omega, by show n ≤ N; omega, hw.le (Nat.le_succ n), hg, Nat.le_trans (Nat.add_le_add_left (bS (by simp only [aF, Fr.nodes, Tr.nodes, Trs.nodes]; omega)) cc) hbd, hG⟩, Nat.lt_succ_self n⟩
  exact absurd (ch hc65) (by omega)
 | @cond i k x y r hi hs hk h7 p1 p2 =>
  have hb : g.bad = false := by simpa using hc15
  have hst := hE.st _ hk
  have htm := g9 hst
  have hx0 := di (t := x)
  have hy0 := di (t := y)
  generalize hs0 : b.getD k default = s at hst htm h7 hG hlt hbd hge ⊢
  rw [f8 hb (by omega)] at hG
  have e0 : aF (.st (.node s (k : Nat) [x, y]) :: r) = 1 + (x.nodes + y.nodes) + aF r := by simp only [aF, Fr.nodes, Tr.nodes, Trs.nodes]; omega
  have ex : aF (.st x :: r) = x.nodes + aF r := rfl
  have ey : aF (.st y :: r) = y.nodes + aF r := rfl
  rw [e0] at hlt hbd
  have e := m7 (m := 1 + (x.nodes + y.nodes) + aF r - 2)
  rw [show 1 + (x.nodes + y.nodes) + aF r - 2 + 2 = 1 + (x.nodes + y.nodes) + aF r by omega] at e
  have e1 := bS (m := aF (.st x :: r)) (n := 1 + (x.nodes + y.nodes) + aF r - 2) (by omega)
  have e2 := bS (m := aF (.st y :: r)) (n := 1 + (x.nodes + y.nodes) + aF r - 2) (by omega)
  have hg2 : GOk cc (bT w (aJ s.sum w.vars).1 (aS w s.sum g)) := hg.flag.flag.flag
  have hg3 := eZ hE (la := bF) (frm := frm) (n := n) (w := w.fact (aJ s.sum w.vars).1) p1 hg2
  refine aw (ah (ag (j2 O Z Z (jn (af O Z Z (fun hc17 => ?_) (fun hc17 => ?_))))))
  cases hc17
  refine an (ah (ag (j4 O Z Z Z Z (js O Z (jf [31,17,16,15,2,3,4] Z (jn (af O Z Z (fun hc31 => ?_) (fun hc31 => ?_))))))))
  cases hc31
  refine an (ah (pE O [_,_,_,_,_,_,_,_,_,_,_,_] [pn [] 0 1, pn [0] 0 1, pn [0,1] 0 1, pn [0,1,2] 0 1, pn [] 0 2, pn [4] 0 2, pn [4,5] 0 2, pn [4,5,6] 0 2, pn [] 0 1, pe [] 0, pe [0,1,2,3,8,9] 1, pe [0,1,2,3,4,5,6,7,8,9,10] 2] [9,10,11] 8 6 (.box [.d .nilp]) [_,_] [_,_] [] (ai (kf O Z Z Z (kg O Z Z Z)) (ai (kf O Z Z Z (kg O Z Z Z)) (ai (kf O Z Z Z (kg O Z Z Z)) (ai (kf O Z Z Z (kg O Z Z Z)) (ai (kf O Z Z Z (kf O Z Z Z (kg O Z Z Z))) (ai (kf O Z Z Z (kf O Z Z Z (kg O Z Z Z))) (ai (kf O Z Z Z (kf O Z Z Z (kg O Z Z Z))) (ai (kf O Z Z Z (kf O Z Z Z (kg O Z Z Z))) (ai (ai (ai (aH (Eff.alloc O Z Z Z Z Z Z)) Z) (ai (aH (Eff.alloc O Z Z Z Z Z Z)) Z)) (ai (ai (ay (aH (Eff.alloc O Z Z Z Z Z Z)) (aH (Eff.alloc O Z Z Z Z Z Z))) Z) (ai (ai (ay trivial (aH (eS O Z Z Z))) Z) (ai (ai (ay trivial (aH (eS O Z Z Z))) Z) trivial)))))))))))) ?_))
  refine jw [7,6,31,17,16,15,2,3,4] Z (bQ ?_)
  refine ah (ag (j4 O Z Z Z Z (js O Z (jf [64,7,6,31,17,16,15,2,3,4] Z (jn (aw (ag (j2 O Z Z (jn (af O Z Z (fun hc65 => ?_) (fun hc65 => ?_)))))))))))
  exact absurd (bp hc65) (by omega)
  refine ag (j2 O Z Z (jn (af O Z Z (fun hc84 => ?_) (fun hc84 => ?_))))
  exact absurd (bp hc84) (by omega)
  refine ag (j2 O Z Z (jn (af O Z Z (fun hc103 => ?_) (fun hc103 => ?_))))
  exact absurd (bp hc103) (by omega)
  refine ag (j2 O Z Z (jn (af O Z Z (fun hc130 => ?_) (fun hc130 => ?_))))
  exact absurd (bp hc130) (by omega)
  refine ag (j2 O Z Z (jn (af O Z Z (fun hc145 => ?_) (fun hc145 => ?_))))
  exact absurd (bp hc145) (by omega)
  refine ag (j2 O Z Z (jn (af O Z Z (fun hc157 => ?_) (fun hc157 => ?_))))
  exact absurd (bp hc157) (by omega)
  refine ag (j2 O Z Z (jn (af O Z Z (fun hc178 => ?_) (fun hc178 => ?_))))
  refine ah ?_
  have hT := vr (c := (bq E SS bd lo be nm)) (g := (aS w s.sum g)) (frm := frm) (w := w) (t := (aJ s.sum w.vars).1) (d8 := Tr.d (.node s k [x, y])) (d9 := fD r) (Y := (dH bF E frm n (.st x :: r))) (N := (dH bF E frm n (.st y :: r))) h1 h2 (fun u g h => cf h) (fun u g h => cf h) eE (by omega) (by omega) (by omega) (fun _ => xR h1 h2 (ih n (by omega) ⟨fl, _, p1⟩ (by omega) (hw.fact) hg2 (by omega))) (fun _ => xQ h1 h2 (ih n (by omega) ⟨fl, _, p2⟩ (by omega) (hw.fact) hg3 (by omega)))
  refine jG O [_,_,_,_,_,_,_,_,_,_,_,_,_,_,_,_] [pn [] 0 1, pn [0] 0 1, pn [0,1] 0 1, pn [] 0 1, pn [] 0 0, pn [4] 0 0, pn [4,5] 0 0, pn [] 0 0, pn [7] 0 0, pn [7,8] 0 0, pn [7,8,9] 0 0, pn (rg 7 4) 0 0, pe (rg 4 8) 0, pn [] 0 1, pn [] 0 1, pe (rg 0 15) 1] [12,15] [_, [(3, pB 500), (6, xB (Tr.d (.node s (k : Nat) [x, y]))), (7, xB (fD r)), (500, iB (bq E SS bd lo be nm) (aS w s.sum g) 901 902 503), (901, aB (aS w s.sum g).paths), (902, aD (aS w s.sum g).conds), (503, aO nm), (4, iW frm w 904 905 906), (904, aG w.vars), (905, aG w.facts), (906, aZ w.ev)], _] [[], [901,902,904,905,906]] (ai (ka O Z Z (kw O Z Z)) (ai (ka O Z Z (kw O Z Z)) (ai (ka O Z Z (kw O Z Z)) (ai (ka O Z Z (kw O Z Z)) (ka O Z Z (ka O Z Z (ka O Z Z (ka O Z Z (ka O Z Z (ka O Z Z (ka O Z Z (ka O Z Z (ai (ai (aH (bE O [500,901,902,503,4,904,905,906] (bin := [iB (bq E SS bd lo be nm) g 1 2 3, aB g.paths, aD g.conds, aO nm, iW frm w 5 6 7, aG w.vars, aG w.facts, aZ w.ev]) Z Z Z Z (j6 (c := (bq E SS bd lo be nm)) (frm := frm) (w := w) (g := g) (t := s.sum) h1 h2 htm.1.1 hva (by have := htm.1.2; omega)) Z Z Z Z Z (B0 := 193000) Z Z Z Z Z Z)) Z) (ai (ka O Z Z (kw O Z Z)) (ai (ka O Z Z (kw O Z Z)) (ai (ai (bO O [500,901,902,503,904,905,906,3,6,7] [901,902,904,905,906] (bin := [iB (bq E SS bd lo be nm) (aS w s.sum g) 1 2 3, aB (aS w s.sum g).paths, aD (aS w s.sum g).conds, aO nm, aG w.vars, aG w.facts, aZ w.ev, pB 0, xB (Tr.d (.node s k [x, y])), xB (fD r)]) Z Z Z Z (hT) Z Z Z Z Z (B0 := 196000) Z Z Z Z Z Z Z) Z) trivial)))))))))))))))) ?_
  refine jw [178,179,157,158,145,146,130,131,103,104,84,85,65,66,64,7,6,31,17,16,15,2,3,4] Z (bQ ?_)
  refine fK ?_
  rw [← hG]
  refine ⟨.inl Z, _, (ae 196010 510 Z Z).trans (ae 196011 511 Z Z), _, Z, Z, Z⟩
  exact absurd (ch hc178) (by omega)
 | @loop i k x r hi hs hk h8 =>
  have hb : g.bad = false := by simpa using hc15
  have hnum := hP.num _ hk h8
  have hf := fz (hE.st _ hk)
  have hEn := hE.num _ hk h8
  generalize hs0 : b.getD k default = s at h8 hf hG hlt hbd hge ⊢
  rw [f6 hb, hEn] at hG
  refine aw (ah (ag (j2 O Z Z (jn (af O Z Z (fun hc17 => ?_) (fun hc17 => ?_))))))
  cases hc17
  refine an (ah (ag (j4 O Z Z Z Z (js O Z (jf [31,17,16,15,2,3,4] Z (jn (af O Z Z (fun hc31 => ?_) (fun hc31 => ?_))))))))
  cases hc31
  refine an (ah (pE O [_,_,_,_,_,_,_,_,_,_,_,_] [pn [] 0 1, pn [0] 0 1, pn [0,1] 0 1, pn [0,1,2] 0 1, pn [] 0 2, pn [4] 0 2, pn [4,5] 0 2, pn [4,5,6] 0 2, pn [] 0 1, pe [] 0, pe [0,1,2,3,8,9] 1, pe [0,1,2,3,4,5,6,7,8,9,10] 2] [9,10,11] 8 6 (.box [.d .nilp]) [_,_] [_,_] [] (ai (kf O Z Z Z (kg O Z Z Z)) (ai (kf O Z Z Z (kg O Z Z Z)) (ai (kf O Z Z Z (kg O Z Z Z)) (ai (kf O Z Z Z (kg O Z Z Z)) (ai (kf O Z Z Z (kf O Z Z Z (kg O Z Z Z))) (ai (kf O Z Z Z (kf O Z Z Z (kg O Z Z Z))) (ai (kf O Z Z Z (kf O Z Z Z (kg O Z Z Z))) (ai (kf O Z Z Z (kf O Z Z Z (kg O Z Z Z))) (ai (ai (ai (aH (Eff.alloc O Z Z Z Z Z Z)) Z) (ai (aH (Eff.alloc O Z Z Z Z Z Z)) Z)) (ai (ai (ay (aH (Eff.alloc O Z Z Z Z Z Z)) (aH (Eff.alloc O Z Z Z Z Z Z))) Z) (ai (ai (ay trivial (aH (eS O Z Z Z))) Z) (ai (ai (ay trivial (aH (eS O Z Z Z))) Z) trivial)))))))))))) ?_))
  refine jw [7,6,31,17,16,15,2,3,4] Z (bQ ?_)
  refine ah (ag (j4 O Z Z Z Z (js O Z (jf [64,7,6,31,17,16,15,2,3,4] Z (jn (aw (ag (j2 O Z Z (jn (af O Z Z (fun hc65 => ?_) (fun hc65 => ?_)))))))))))
  exact absurd (bp hc65) (by omega)
  refine ag (j2 O Z Z (jn (af O Z Z (fun hc84 => ?_) (fun hc84 => ?_))))
  exact absurd (bp hc84) (by omega)
  refine ag (j2 O Z Z (jn (af O Z Z (fun hc103 => ?_) (fun hc103 => ?_))))
  exact absurd (bp hc103) (by omega)
  refine ag (j2 O Z Z (jn (af O Z Z (fun hc130 => ?_) (fun hc130 => ?_))))
  exact absurd (bp hc130) (by omega)
  refine ag (j2 O Z Z (jn (af O Z Z (fun hc145 => ?_) (fun hc145 => ?_))))
  exact absurd (bp hc145) (by omega)
  refine ag (j2 O Z Z (jn (af O Z Z (fun hc157 => ?_) (fun hc157 => ?_))))
  exact absurd (bp hc157) (by omega)
  refine ag (j2 O Z Z (jn (af O Z Z (fun hc178 => ?_) (fun hc178 => ?_))))
  exact absurd (bp hc178) (by omega)
  refine ag (j2 O Z Z (jn (af O Z Z (fun hc196 => ?_) (fun hc196 => ?_))))
  refine ah (gv O [_,_,_,_,_,_,_,_,_,_] [pn [] 0 0, pn [0] 0 0, pn [0,1] 0 0, pn [0,1,2] 0 0, pn [] 0 0, pn [4] 0 0, pn [4,5] 0 0, pn [4,5,6] 0 0, pn (rg 0 8) 0 0, pn (rg 0 9) 0 0] [] [_] (kc O Z (kc O Z (kc O Z (kc O Z (kc O Z (kc O Z (kc O Z (kc O Z (ai ((oc (kt := 2) (et := 2) (q := .i64) (z := .int .i64 0) (es := nm) (k := (k : Nat)) O Z Z Z wj uK zK Z Z Z Z).cast (v' := eI (aT b k : Nat)) (by rw [hnum]; rfl)) (kc O Z trivial)))))))))) ?_)
  refine jw [9,196,197,178,179,157,158,145,146,130,131,103,104,84,85,65,66,64,7,6,31,17,16,15,2,3,4] Z (bQ ?_)
  refine ah (jG O [_,_,_,_,_,_,_,_,_,_] [pn [] 0 0, pn [0] 0 0, pn [0,1] 0 0, pn [] 0 0, pn [] 0 0, pn [4] 0 0, pn [4,5] 0 0, pn [4,5,6] 0 0, pn (rg 4 4) 0 0, pe (rg 0 9) 0] [9] [_,_] [[901,902]] (ka O Z Z (ka O Z Z (ka O Z Z (ka O Z Z (ka O Z Z (ka O Z Z (ka O Z Z (ka O Z Z (ka O Z Z (ai (ai (bO O [500,901,902,503,4,904,905,906] [901,902] (bin := [iB (bq E SS bd lo be nm) g 1 2 3, aB g.paths, aD g.conds, aO nm, iW frm w 5 6 7, aG w.vars, aG w.facts, aZ w.ev]) Z Z Z Z (rI (c := (bq E SS bd lo be nm)) (g := g) (frm := frm) (w := w) (to := (aT b k : Nat)) (fs := s.facts) h1 h2 hw.ctx hw.vars hf.1 (by have := hf.2; omega) (by omega)) Z Z Z Z Z (B0 := 217000) Z Z Z Z Z Z Z) Z) trivial)))))))))) ?_)
  refine jw [196,197,178,179,157,158,145,146,130,131,103,104,84,85,65,66,64,7,6,31,17,16,15,2,3,4] Z (bQ ?_)
  refine fK ?_
  rw [← hG]
  refine ⟨.inl Z, _, (ae 217009 510 Z Z).trans (ae 217008 511 Z Z), _, Z, Z, Z⟩
  exact absurd (ch hc196) (by omega)
 refine bt ?_
 show _ ∧ _
 have hb : g.bad = true := by simpa using hc15
 rw [← hG, cf hb]
 refine ⟨.inr Z, _, (ae 901 510 Z Z).trans (ae 902 511 Z Z), _, Z, Z, Z⟩
theorem rJ {L : Nat} (h1 : 4096 ≤ L) (h2 : L ≤ 1073741824) {E : Pe} {b : List Sm} {SS : List (List Tm)} {bd lo be : D} {nm : List (Int × D)} {frm : Int} (hE : EOk E b) (hbl : b.length ≤ 1000) (hP : PcOk E b SS nm) (n : Nat) : ∀ {r : List Fr} {w : Pw} {g : Gs} {c : Nat}, (∃ fl i, Pl b fl i r) → aF r < n → WOk n w → GOk c g → c + lL (aF r) ≤ L → kx L (bq E SS bd lo be nm) frm w g (fD r) (dH bF E frm n r w g) := by
 induction n using Nat.strongRecOn with
 | _ n ih =>
  intro r w g c hp hn hw hg hL
  exact vt h1 h2 hE hbl hP (N := n) (r0 := r) (w0 := w) (g0 := g) (c0 := c) (fun m hm => ih m hm) ⟨hp, hn, cz _, hw, hg, hL, Z⟩
end Go.Al
