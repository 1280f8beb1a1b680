/- The reference follows a path. -/
import Derived.Test.YtnnbiajhcolfiaaGreatC
import Derived.Test.YtnnbiajhcolfiaaGreatJ
import Derived.Test.YtnnbiajhcolfiaaGreatE
set_option linter.unusedVariables false
set_option linter.unusedSimpArgs false
set_option maxRecDepth 10000
set_option maxHeartbeats 4000000
open Go.Proofs
namespace Go.Al
variable {L : Nat} (h1 : 4096 ≤ L) (h2 : L ≤ 1073741824)
abbrev vR (ps : List Pth) : D := .slc 5 (ps.map Pth.cells)
abbrev bE (ps : List Pth) : B := .row false 5 (ps.map Pth.cells)
abbrev bF (ss : List Sq) : B := .row false 3 (ss.map Sq.cells)
abbrev eU (p fl : D) (frm : Int) (g : Gs) (i j : Nat) : B := .box [.d p, .d fl, .d (.int .i64 frm), .rs i 0 g.paths.length, .rs j 0 g.conds.length, .d (.bool g.bad)]
abbrev hB (w : Pw) : B := .box [.d (e6 w.vars), .d (.int .i64 (w.sym : Int)), .d (e6 w.facts), .d (cG w.ev)]
abbrev hA (w : Pw) : A := .agg [.d (e6 w.vars), .d (.int .i64 (w.sym : Int)), .d (e6 w.facts), .d (cG w.ev)]
abbrev fH (p fl : D) (frm : Int) (g : Gs) (w : Pw) : List (Nat × B) := [(0, eU p fl frm g 1 2), (1, bE g.paths), (2, bF g.conds), (3, hB w)]
abbrev AT (p fl : D) (frm : Int) (g : Gs) (w : Pw) : List (Nat × B) := [(0, eU p fl frm g 1 6), (1, bE g.paths), (3, hB w), (6, bF g.conds)]
abbrev Ah (p fl : D) (frm : Int) (g : Gs) (w : Pw) : List (Nat × B) := [(0, eU p fl frm g 5 6), (3, hB w), (5, bE g.paths), (6, bF g.conds)]
theorem xz {a b : Bool} : (bif a then true else b) = (a || b) := by cases a <;> rfl
variable {p : D} {frm : Int} {g : Gs} {w : Pw} {t : Tm}
theorem mv {fl : D} {ds : List D} {j : Nat} (hd : (ds.drop j).take (Tm.cells t).length = Tm.cells t) (hw : CtxOk w.vars) (ht : t.ok = true) (hle : t.xs.length ≤ w.vars.length) : MQ h1 h2 127 [.c (.pt 0 0 0), .c (.pt 3 0 0), .c (.d (.ptr ds j))] (fH p fl frm g w) (aS (cT (aD t w.vars).1) (fH p fl frm (aR w t g) w)) := by
 refine MC.shift 500 Z (MC.keep [500,501,502,503] (bs := [eU p fl frm (aR w t g) 501 502, bE g.paths, bF g.conds, hB w]) Z Z (jH 30 [500,501,502,503] h1 h2 Tryz.func127 Z Z Z Z fun O hF => ?_))
 refine bK ?_
 refine ag (jl O Z (ap ?_))
 refine bn (j4 O Z Z Z Z (js O Z (jf [14,10,6,0] Z (ay O Z Z Z Z (zf (t := t) (vs := w.vars) h1 h2 hw (Small.of ht).xs (Small.of ht).c hle) (.cons (.c (.sub hd)) (af Z)) Z Z Z Z (B0 := 16000) Z Z (j3 O Z Z Z (jf [17,16,6,0] Z (jl O Z (ap ?_))))))))
 refine jo O Z (ap ?_)
 refine js O Z (jf [8,7,6,0] Z (bn (j4 O Z Z Z Z (j2 O Z Z (jf [23,18,8,7,6] Z (aw 2 Z Z Z (fun hx => ab hx Z Z Z (V O Z) Z Z ( ab hx Z Z Z (V O Z) Z Z ( AN.nil))) Z Z (aa ((bi O Z Z Z Z Z).cast (v' := eB (g.bad || !(aD t w.vars).2)) (congrArg eB xz)) Z Z Z (j2 O Z Z (jf [28,26,7,6] Z (jo O Z (ap ?_)))))))))))
 refine jf [7,6] Z (bn (js O Z (jo O Z (ap ?_))))
 refine jr ?_
 refine ⟨.inl Z, _, av, _, Z, Z, Z⟩
theorem qK {fl : D} (hg : g.conds.length + 1 ≤ L) : MQ h1 h2 129 [.c (.pt 0 0 0), .c (.pt 3 0 0), cT t] (fH p fl frm g w) (aS (.tup []) (AT p fl frm (g.goal w t) w)) := by
 refine MC.shift 500 Z (MC.keep [500,501,503,506] (bs := [eU p fl frm (g.goal w t) 501 506, bE g.paths, hB w, bF (g.goal w t).conds]) Z Z (jH 22 [500,501,502,503] h1 h2 Tryz.func129 Z Z Z Z fun O hF => ?_))
 refine bK ?_
 refine ag (jx O Z (ap ?_))
 refine au (Ent.freeze 5 (e' := [(5, _), (0, _), (1, _)]) Z (.cons Z (.c (.box (cs := Tm.cells t) Z (aC Z))) (fe [0,1] Z)) (.skip (.cons Z (.box (fk Z)) (.cons Z .row (.cons Z .row (.cons Z (.box (fk Z)) .nil)))))) ?_
 refine ap ?_
 refine jn (qw O [_,_,_,_,_,_,_,_,_,_,_,_,_,_,_,_,_] [pn [] 0 3, pn [] 0 2, pn [1] 0 2, pn [1,2] 0 2, pn [1,2,3] 0 2, pn [] 0 0, pn [5] 0 0, pn [5,6] 0 0, pn [5,6,7] 0 0, pe [5,6,7,8] 0, pe [5,6,7,8,9] 1, pn [5,6,7,8,9,10] 2 2, pn [5,6,7,8,9,10,11] 2 2, pe [1,2,3,4,5,6,7,8,9,10,11,12] 2, pn [0,1,2,3,4,5,6,7,8,9,10,11,12,13] 3 3, pn [0,1,2,3,4,5,6,7,8,9,10,11,12,13,14] 3 3, pe [0,1,2,3,4,5,6,7,8,9,10,11,12,13,14,15] 3] [9,10,13,16] 12 18 (.row false 3 [Sq.cells (⟨w.facts, t⟩ : Sq)]) [_,_,_] [_,_] [[], [], [502], []] (ai (kf O Z Z Z (kf O Z Z Z (kf O Z Z Z (kg O Z Z Z)))) (ai (kf O Z Z Z (kf O Z Z Z (kg O Z Z Z))) (ai (kf O Z Z Z (kf O Z Z Z (kg O Z Z Z))) (ai (kf O Z Z Z (kf O Z Z Z (kg O Z Z Z))) (ai (kf O Z Z Z (kf O Z Z Z (kg O Z Z Z))) (kf O Z Z Z (kf O Z Z Z (kf O Z Z Z (kf O Z Z Z (ai (ai (aF (bN O (B0 := 16000) Z Z Z Z (va (ts := w.facts) h1 h2) (af Z) Z Z Z Z Z) (bN O (B0 := 16000) Z Z Z Z (va (ts := w.facts) h1 h2) (af Z) Z Z Z Z Z)) Z) (ai (ai (aF (bN O (B0 := 17000) Z Z Z Z (vY (t := t) h1 h2) (af Z) Z Z Z Z Z) (bN O (B0 := 17000) Z Z Z Z (vY (t := t) h1 h2) (af Z) Z Z Z Z Z)) Z) (kf O Z Z Z (ai (ai (dD O Z Z Z Z Z Z Z Z Z Z Z Z Z Z) Z) (ai (ai (aF trivial (cm (own := false) (xs := g.conds.map Sq.cells) (ys := [Sq.cells (⟨w.facts, t⟩ : Sq)]) (zs := ((g.conds ++ [(⟨w.facts, t⟩ : Sq)])).map Sq.cells) (n := (g.conds ++ [(⟨w.facts, t⟩ : Sq)]).length) O Z Z Z Z Z Z Z Z Z Z Z Z Z Z Z Z (.row Z (cw _).symm) (.whole Z Z (.inr ⟨Z, Z⟩)) (by simp) Z (by simp; omega) (by simp; omega) (by simp) (by simp) Z)) Z) (ai (ai (aF trivial (V O Z)) Z) (ai (ai (aF trivial (V O Z)) Z) (ai (ai (aF trivial (aI (eS O Z Z Z))) Z) trivial))))))))))))))))) ?_)
 show _ ∧ _
 refine ⟨.inr Z, _, ac 19 506 Z Z, _, Z, Z, Z⟩
theorem n7 {fl : D} (hl : w.facts.length ≤ 1000) : MQ h1 h2 130 [.c (.pt 0 0 0), .c (.pt 3 0 0), cT t] (fH p fl frm g w) (aS (hA (w.fact t)) (fH p fl frm (g.flag (w.fact t).long) w)) := by
 refine MC.shift 500 Z (MC.keep [500,501,502,503] (bs := [eU p fl frm (g.flag (w.fact t).long) 501 502, bE g.paths, bF g.conds, hB w]) Z Z (jH 34 [500,501,502,503] h1 h2 Tryz.func130 Z Z Z Z fun O hF => ?_))
 refine bK ?_
 refine ag (jx O Z (ap ?_))
 refine au (Ent.freeze 5 (e' := [(5, _), (0, _), (1, _)]) Z (.cons Z (.c (.box (cs := Tm.cells t) Z (aC Z))) (fe [0,1] Z)) (.skip (.cons Z (.box (fk Z)) (.cons Z .row (.cons Z .row (.cons Z (.box (fk Z)) .nil)))))) ?_
 refine ap ?_
 refine jl O Z (ap ?_)
 refine bn (j3 O Z Z Z (jf [10,6,5,0,1] Z (jl O Z (ap ?_))))
 refine jo O Z (ap ?_)
 refine jn (ah (qw O [_,_,_,_,_,_,_,_,_,_] [pn [] 0 0, pn [0] 0 0, pn [0,1] 0 0, pn [0,1,2] 0 0, pe [0,1,2,3] 0, pn [] 0 1, pn [5] 0 1, pe [0,1,2,3,4,5,6] 1, pn [0,1,2,3,4,5,6,7] 2 2, pe [0,1,2,3,4,5,6,7,8] 2] [4,7,9] 6 17 (.row false 2 [Tm.cells t]) [_,_] [_,_] [[], [16000], []] (kf O Z Z Z (kf O Z Z Z (kf O Z Z Z (kf O Z Z Z (ai (ai (aF (aI (mX O (B0 := 16000) Z Z Z Z (sn (ts := w.facts) h1 h2) (af Z) Z Z Z Z)) (aI (mX O (B0 := 16000) Z Z Z Z (sn (ts := w.facts) h1 h2) (af Z) Z Z Z Z))) Z) (ai (kf O Z Z Z (kg O Z Z Z)) (ai (ai (ai (aI (dD O Z Z Z Z Z Z Z Z Z Z Z Z Z Z)) Z) (ai (aI (dD O Z Z Z Z Z Z Z Z Z Z Z Z Z Z)) Z)) (ai (ai (aF trivial (cm (own := false) (xs := w.facts.map Tm.cells) (ys := [Tm.cells t]) (zs := ((w.facts ++ [t])).map Tm.cells) (n := (w.facts ++ [t]).length) O Z Z Z Z Z Z Z Z Z Z Z Z Z Z Z Z (.row Z (cw _).symm) (.whole Z Z (.inr ⟨Z, Z⟩)) (by simp) Z (by simp; omega) (by simp; omega) (by simp) (by simp) Z)) Z) (ai (ai (aF trivial (V O Z)) Z) (ai (ai (aF trivial (aI (eS O Z Z Z))) Z) trivial)))))))))) ?_))
 refine jw [7,10,6,0,1] Z (bK ?_)
 refine ag (au (Ent.freeze 18 (e' := [(0, _), (7, _), (6, _)]) Z (fe [0,7,6] Z) (.cons Z (.box (fk Z)) (.cons Z (.box (.cons (.keep Z) (.cons (.keep Z) (.cons (.row Z (by simp)) (fk Z))))) (.cons Z .row (.skip (.cons Z (.box (fk Z)) (.cons Z .row (.cons Z .row (.cons Z (.box (fk Z)) .nil))))))))) ?_)
 refine j4 O Z Z Z Z (j2 O Z Z (jf [25,20,7,6] Z (aw 4 Z Z Z (fun hx => ab hx Z Z Z (V O Z) Z Z ( ab hx Z Z Z (V O Z) Z Z ( ab hx Z Z Z (b9 O Z Z Z Z Z Z Z Z) Z Z ( ab hx Z Z Z (V O Z) Z Z ( AN.nil))))) Z Z (aa ((bi O Z Z Z Z Z).cast (v' := eB (g.bad || (w.fact t).long)) (congrArg eB (by rw [xz, Pw.long]; exact congrArg (g.bad || ·) (decide_eq_decide.2 (by simp [Pw.fact]; omega))))) Z Z Z (j2 O Z Z (jf [32,30,7,6] Z (jo O Z (ap ?_))))))))
 refine jf [7,6] Z (bn (js O Z (jo O Z (ap ?_))))
 refine jr ?_
 refine ⟨.inl Z, _, av, _, Z, Z, Z⟩
def bg : cF := fun t => rd ⟨7, []⟩ 1 t (-1)
theorem we : Small (⟨7, []⟩ : Tm) := ⟨by decide, by decide⟩
theorem sI {fl : D} {ds : List D} {j : Nat} (hd : (ds.drop j).take (Tm.cells t).length = Tm.cells t) (hw : CtxOk w.vars) (ht : t.ok = true) (hle : t.xs.length ≤ w.vars.length) (hg : g.conds.length + 2 ≤ L) : MQ h1 h2 128 [.c (.pt 0 0 0), .c (.pt 3 0 0), .c (.d (.ptr ds j))] (fH p fl frm g w) (aS (.tup []) (AT p fl frm (cd bg w t g) w)) := by
 refine MC.shift 500 Z (MC.keep [500,501,503,506] (bs := [eU p fl frm (cd bg w t g) 501 506, bE (cd bg w t g).paths, hB w, bF (cd bg w t g).conds]) Z Z (jH 38 [500,501,502,503] h1 h2 Tryz.func128 Z Z Z Z fun O hF => ?_))
 refine bK ?_
 refine ag (j3 O Z Z Z (jf [11,10,9,0,1] Z (aj O [500,501,502,503] (bin := [eU p fl frm g 1 2, bE g.paths, bF g.conds, hB w]) Z Z Z Z (mv (p := p) (fl := fl) (frm := frm) (g := g) (w := w) (t := t) (ds := ds) (j := j) h1 h2 hd hw ht hle) Z Z Z Z Z Z (B0 := 13000) Z Z (ap ?_))))
 refine jf [12,0,1] Z (jl O Z (ap ?_))
 refine jo O Z (ap ?_)
 refine bn (j3 O Z Z Z (aj O [500,501,502,503] (bin := [eU p fl frm (aR w t g) 1 2, bE (aR w t g).paths, bF (aR w t g).conds, hB w]) Z Z Z Z (qK (p := p) (fl := fl) (frm := frm) (g := (aR w t g)) (w := w) (t := (aD t w.vars).1) h1 h2 (by simp only [aR, Gs.flag, Gs.goal, de, gt]; omega)) Z Z Z Z Z Z (B0 := 17000) Z Z (ap ?_)))
 refine jf [6,12,0,1] Z (bn (js O Z (jx O Z (ap ?_))))
 refine jf [19,6,12,0,1] Z (au (Ent.freeze 19 (e' := [(19, _), (6, _), (0, _), (1, _)]) Z (.cons Z (.c (.box (cs := Tm.cells ⟨7, []⟩) Z (.cons .d (.cons .nils .nil)))) (fe [6,0,1] Z)) (.cons Z (.box (fk Z)) (.skip (.cons Z (.box (fk Z)) (.cons Z .row (.cons Z (.box (fk Z)) (.cons Z .row .nil))))))) ?_)
 refine au (Ent.freeze 6 (e' := [(19, _), (6, _), (0, _), (1, _)]) Z (.cons Z (.keep Z) (.cons Z (.c (.box (cs := Tm.cells (aD t w.vars).1) Z (aC Z))) (fe [0,1] Z))) (.skip (.cons Z (.box (fk Z)) (.cons Z .row (.cons Z (.box (fk Z)) (.cons Z .row .nil)))))) ?_
 refine ay O Z Z Z Z (x9 (a := ⟨7, []⟩) (m := 1) (b := (aD t w.vars).1) (n := -1) h1 h2 we (Small.of dN) (by decide) (by decide)) (af Z) Z Z Z Z (B0 := 21000) Z Z (j3 O Z Z Z (jf [22,21,6,0,1] Z (jl O Z (ap ?_))))
 refine jo O Z (ap ?_)
 refine js O Z (jf [8,7,6,0,1] Z (bn (j4 O Z Z Z Z (j2 O Z Z (jf [28,23,8,7,6,0,1] Z (aw 2 Z Z Z (fun hx => ab hx Z Z Z (V O Z) Z Z ( ab hx Z Z Z (V O Z) Z Z ( AN.nil))) Z Z (aa ((bi O Z Z Z Z Z).cast (v' := eB (((aR w t g).goal w (aD t w.vars).1).bad || !(bg (aD t w.vars).1).2)) (congrArg eB xz)) Z Z Z (j2 O Z Z (jf [33,31,7,6,0,1] Z (jo O Z (ap ?_)))))))))))
 refine jf [7,6,0,1] Z (jn (an (j3 O Z Z Z (aj O [500,501,17006,503] (bin := [eU p fl frm (((aR w t g).goal w (aD t w.vars).1).flag (!(bg (aD t w.vars).1).2)) 1 2, bE (((aR w t g).goal w (aD t w.vars).1).flag (!(bg (aD t w.vars).1).2)).paths, bF (((aR w t g).goal w (aD t w.vars).1).flag (!(bg (aD t w.vars).1).2)).conds, hB w]) Z Z Z Z (qK (p := p) (fl := fl) (frm := frm) (g := (((aR w t g).goal w (aD t w.vars).1).flag (!(bg (aD t w.vars).1).2))) (w := w) (t := (bg (aD t w.vars).1).1) h1 h2 (by simp only [aR, Gs.flag, Gs.goal, de, gt]; omega)) Z Z Z Z Z Z (B0 := 38000) Z Z (ap ?_)))))
 refine jf [7,6,0,1] Z (jn ?_)
 show _ ∧ _
 refine ⟨.inr Z, _, ac 38006 506 Z Z, _, Z, Z, Z⟩
theorem mN {w : Pw} {g : Gs} {fs : List Tm} {i : Nat} (h : i < fs.length) : (fs.take (i + 1)).foldl (bl w) g = bl w ((fs.take i).foldl (bl w) g) (fs.getD i default) := by
 rw [List.take_succ_eq_append_getElem h, List.foldl_append, aM h]; rfl
theorem jd {w : Pw} : ∀ {fs : List Tm} {g : Gs}, (fs.foldl (bl w) g).conds.length = g.conds.length + fs.length
 | [], g => rfl
 | t :: fs, g => by
  rw [List.foldl_cons, jd]
  simp only [bl, aR, Gs.goal, Gs.flag, de, iX, List.length_nil]; omega
def TsOk (fs : List Tm) : Prop := ∀ t ∈ fs, t.ok = true ∧ t.xs.length ≤ 4
theorem TsOk.get {fs : List Tm} (h : TsOk fs) {i : Nat} (hi : i < fs.length) : (fs.getD i default).ok = true ∧ (fs.getD i default).xs.length ≤ 4 := by rw [aM hi]; exact h _ (List.getElem_mem hi)
theorem vz {fl : D} {to : Int} {fs : List Tm} (hw : CtxOk w.vars) (hv : w.vars.length = 4) (hf : TsOk fs) (hg : g.conds.length + fs.length ≤ L) (hp : g.paths.length + 1 ≤ L) : MQ h1 h2 126 [.c (.pt 0 0 0), .c (.pt 3 0 0), eI to, cW fs] (fH p fl frm g w) (aS (.tup []) (Ah p fl frm (cV frm w to fs g) w)) := by
 refine MC.shift 500 Z (MC.keep [500,503,505,506] (bs := [eU p fl frm (cV frm w to fs g) 505 506, hB w, bE (cV frm w to fs g).paths, bF (cV frm w to fs g).conds]) Z Z (jH 69 [500,501,502,503] h1 h2 Tryz.func126 Z Z Z Z fun O hF => ?_))
 refine bK ?_
 have hpe : (fs.foldl (bl w) g).paths.length = g.paths.length := congrArg List.length dG
 refine ah (ag (js O Z (jn (aq (aH (X := Nat) (fun i => ⟨[(0, .c (.pt 500 0 0)), (1, .c (.pt 503 0 0)), (2, eI to), (3, cW fs), (8, eI i)], [(500, eU p fl frm ((fs.take i).foldl (bl w) g) 501 902), (501, bE ((fs.take i).foldl (bl w) g).paths), (503, hB w), (902, bF ((fs.take i).foldl (bl w) g).conds)]⟩) (fun i => i ≤ fs.length) (fun i => fs.length - i) 0 (((am [500,501,503,502] (e' := [(0, _), (1, _), (2, _), (3, _), (8, _)]) Z Z ⟨Z, Z, Z, Z, Z, trivial⟩ Z).trans (ac 502 902 Z Z)).trans (Ent.to ⟨Z, Z, Z, Z, Z, trivial⟩ Z)) ?_ (fun i hi => ?_))))))
 exact dF _
 refine ah (ag (j2 O Z Z (eK O Z (js O Z (jf [12,0,1,2,3,8] Z (jn (ae O Z Z (fun hc12 => ?_) (fun hc12 => ?_))))))))
 refine ak (ah (aq (an (j4 O Z Z Z Z (j2 O Z Z (r6 O Z Z (jf [21,18,17,16,15,12,0,1,2,3,8] Z ?_)))))))
 have hil : i < fs.length := by have := bz hc12; omega
 have hfi := hf.get hil
 have hci := jd (w := w) (fs := fs.take i) (g := g)
 rw [List.length_take, Nat.min_eq_left (by omega)] at hci
 refine aj O [500,501,902,503] (bin := [eU p fl frm ((fs.take i).foldl (bl w) g) 1 2, bE ((fs.take i).foldl (bl w) g).paths, bF ((fs.take i).foldl (bl w) g).conds, hB w]) Z Z Z Z (mv (p := p) (fl := fl) (frm := frm) (g := ((fs.take i).foldl (bl w) g)) (w := w) (t := (fs.getD i default)) (ds := Tm.cells (fs.getD i default)) (j := 0) h1 h2 Z hw hfi.1 (by omega)) Z Z Z Z Z Z (B0 := 23000) Z Z (ap ?_)
 refine jf [22,16,15,12,0,1,2,3,8] Z (aj O [500,501,902,503] (bin := [eU p fl frm (aR w (fs.getD i default) ((fs.take i).foldl (bl w) g)) 1 2, bE (aR w (fs.getD i default) ((fs.take i).foldl (bl w) g)).paths, bF (aR w (fs.getD i default) ((fs.take i).foldl (bl w) g)).conds, hB w]) Z Z Z Z (qK (p := p) (fl := fl) (frm := frm) (g := aR w (fs.getD i default) ((fs.take i).foldl (bl w) g)) (w := w) (t := (aD (fs.getD i default) w.vars).1) h1 h2 (show ((fs.take i).foldl (bl w) g).conds.length + 1 ≤ L by omega)) Z Z Z Z Z Z (B0 := 24000) Z Z (ap ?_))
 refine jf [12,0,1,2,3,8] Z (jn (an (js O Z (ji O Z (js O Z (jf [8,12,0,1,2,3] Z (jn ?_)))))))
 refine ⟨i + 1, ((am [500,501,503,24006] (e' := [(0, _), (1, _), (2, _), (3, _), (8, _)]) Z Z ⟨Z, Z, Z, Z, Z, trivial⟩ Z).trans (ac 24006 902 Z Z)).trans (Ent.to ⟨Z, Z, Z, Z, Z, trivial⟩ (by rw [mN (by omega)]; rfl)), by omega, by omega⟩
 refine bH (ah ?_)
 obtain rfl : i = fs.length := by have := cp hc12; omega
 rw [List.take_length]
 refine qw O [_,_,_,_,_,_,_,_,_,_,_,_,_,_,_,_,_,_,_,_,_,_,_,_,_,_,_,_,_,_,_] [pn [] 0 4, pn [] 0 3, pn [1] 0 3, pn [1,2] 0 3, pn [1,2,3] 0 3, pn [] 0 3, pn [5] 0 3, pn [5,6] 0 3, pn [5,6,7] 0 3, pn [] 0 3, pn [] 0 0, pn [10] 0 0, pn [10,11] 0 0, pn [10,11,12] 0 0, pe [10,11,12,13] 0, pn [] 0 1, pn [15] 0 1, pn [15,16] 0 1, pn [15,16,17] 0 1, pe [10,11,12,13,14,15,16,17,18] 1, pn [] 0 2, pn [20] 0 2, pn [20,21] 0 2, pn [20,21,22] 0 2, pe [10,11,12,13,14,15,16,17,18,19,20,21,22,23] 2, pn [5,6,7,8,9,10,11,12,13,14,15,16,17,18,19,20,21,22,23,24] 3 3, pn [5,6,7,8,9,10,11,12,13,14,15,16,17,18,19,20,21,22,23,24,25] 3 3, pe [1,2,3,4,5,6,7,8,9,10,11,12,13,14,15,16,17,18,19,20,21,22,23,24,25,26] 3, pn [0,1,2,3,4,5,6,7,8,9,10,11,12,13,14,15,16,17,18,19,20,21,22,23,24,25,26,27] 4 4, pn [0,1,2,3,4,5,6,7,8,9,10,11,12,13,14,15,16,17,18,19,20,21,22,23,24,25,26,27,28] 4 4, pe [0,1,2,3,4,5,6,7,8,9,10,11,12,13,14,15,16,17,18,19,20,21,22,23,24,25,26,27,28,29] 4] [14,19,24,27,30] 26 50 (.row false 5 [Pth.cells (⟨frm, to, w.facts, w.vars, w.ev⟩ : Pth)]) [_,_,_,_] [_,_] [[], [], [], [501], []] (ai (kf O Z Z Z (kf O Z Z Z (kf O Z Z Z (kf O Z Z Z (kg O Z Z Z))))) (ai (kf O Z Z Z (kf O Z Z Z (kf O Z Z Z (kg O Z Z Z)))) (ai (kf O Z Z Z (kf O Z Z Z (kf O Z Z Z (kg O Z Z Z)))) (ai (kf O Z Z Z (kf O Z Z Z (kf O Z Z Z (kg O Z Z Z)))) (ai (kf O Z Z Z (kf O Z Z Z (kf O Z Z Z (kg O Z Z Z)))) (ai (kf O Z Z Z (kf O Z Z Z (kf O Z Z Z (kg O Z Z Z)))) (ai (kf O Z Z Z (kf O Z Z Z (kf O Z Z Z (kg O Z Z Z)))) (ai (kf O Z Z Z (kf O Z Z Z (kf O Z Z Z (kg O Z Z Z)))) (ai (kf O Z Z Z (kf O Z Z Z (kf O Z Z Z (kg O Z Z Z)))) (ai (kf O Z Z Z (kf O Z Z Z (kf O Z Z Z (kg O Z Z Z)))) (kf O Z Z Z (kf O Z Z Z (kf O Z Z Z (kf O Z Z Z (ai (ai (aF (bN O (B0 := 39000) Z Z Z Z (va (ts := w.facts) h1 h2) (af Z) Z Z Z Z Z) (bN O (B0 := 39000) Z Z Z Z (va (ts := w.facts) h1 h2) (af Z) Z Z Z Z Z)) Z) (ai (kf O Z Z Z (kg O Z Z Z)) (ai (kf O Z Z Z (kg O Z Z Z)) (ai (kf O Z Z Z (kg O Z Z Z)) (ai (kf O Z Z Z (kg O Z Z Z)) (ai (ai (aF (bN O (B0 := 44000) Z Z Z Z (va (ts := w.vars) h1 h2) (af Z) Z Z Z Z Z) (bN O (B0 := 44000) Z Z Z Z (va (ts := w.vars) h1 h2) (af Z) Z Z Z Z Z)) Z) (ai (kf O Z Z Z (kf O Z Z Z (kg O Z Z Z))) (ai (kf O Z Z Z (kf O Z Z Z (kg O Z Z Z))) (ai (kf O Z Z Z (kf O Z Z Z (kg O Z Z Z))) (ai (kf O Z Z Z (kf O Z Z Z (kg O Z Z Z))) (ai (ai (aF (bN O (B0 := 49000) Z Z Z Z (qE (xs := w.ev) h1 h2) (af Z) Z Z Z Z Z) (bN O (B0 := 49000) Z Z Z Z (qE (xs := w.ev) h1 h2) (af Z) Z Z Z Z Z)) Z) (kf O Z Z Z (ai (ai (aI (dD O Z Z Z Z Z Z Z Z Z Z Z Z Z Z)) Z) (ai (ai (aF trivial (cm (own := false) (xs := (fs.foldl (bl w) g).paths.map Pth.cells) (ys := [Pth.cells (⟨frm, to, w.facts, w.vars, w.ev⟩ : Pth)]) (zs := (((fs.foldl (bl w) g).paths ++ [(⟨frm, to, w.facts, w.vars, w.ev⟩ : Pth)])).map Pth.cells) (n := ((fs.foldl (bl w) g).paths ++ [(⟨frm, to, w.facts, w.vars, w.ev⟩ : Pth)]).length) O Z Z Z Z Z Z Z Z Z Z Z Z Z Z Z Z (.row Z (cw _).symm) (.whole Z Z (.inr ⟨Z, Z⟩)) (by simp) Z (by simp; omega) (by simp; omega) (by simp) (by simp) Z)) Z) (ai (ai (aF trivial (V O Z)) Z) (ai (ai (aF trivial (V O Z)) Z) (ai (ai (aF trivial (aI (eS O Z Z Z))) Z) trivial))))))))))))))))))))))))))))))) ?_
 refine jw [12,0,1,2,3,8] Z (bK ?_)
 refine an (j4 O Z Z Z Z (j2 O Z Z (jf [59,54,12,0,1,2,3,8] Z (aw 6 Z Z Z (fun hx => ab hx Z Z Z (V O Z) Z Z ( ab hx Z Z Z (V O Z) Z Z ( ab hx Z Z Z (V O Z) Z Z ( ab hx Z Z Z (V O Z) Z Z ( ab hx Z Z Z (eX O Z Z (by simp only [de, gt]; omega)) Z Z ( ab hx Z Z Z (V O Z) Z Z ( AN.nil))))))) Z Z (aa ((bi O Z Z Z Z Z).cast (v' := eB ((fs.foldl (bl w) g).bad || decide (200 < (fs.foldl (bl w) g).paths.length + 1))) (congrArg eB (by rw [xz]; exact congrArg ((fs.foldl (bl w) g).bad || ·) (decide_eq_decide.2 (by simp; omega))))) Z Z Z (j2 O Z Z (jf [68,66,12,0,1,2,3,8] Z (jo O Z (ap ?_)))))))))
 refine jf [12,0,1,2,3,8] Z (jn ?_)
 show _ ∧ _
 refine ⟨.inr Z, _, (ac 51 505 Z Z).trans (ac 902 506 Z Z), _, Z, Z, Z⟩
structure Fl where
  stmt : Int
  next : Int
  other : Int
  deriving Inhabited
abbrev Fl.cells (f : Fl) : List D := [.int .i64 f.stmt, .int .i64 f.next, .int .i64 f.other]
abbrev cS (fs : List Fl) : D := .slc 3 (fs.map Fl.cells)
def ba (b : List Sm) : Nat → Nat
  | 0 => 0
  | k + 1 => ba b k + if (b.getD k default).kind = 8 then 1 else 0
theorem fP {b : List Sm} : ∀ {k : Nat}, ba b k ≤ k
 | 0 => cN _
 | k + 1 => by
  have := fP (b := b) (k := k)
  rw [ba]; split <;> omega
inductive Pl (b : List Sm) (fl : List Fl) : Int → List Fr → Prop
  | nil : Pl b fl (-1) []
  | lp {i : Nat} {k : Nat} {r : List Fr} (hi : i < fl.length) (hs : (fl.getD i default).stmt = (k : Nat)) (hk : k < b.length) (hb : (b.getD k default).kind = 8) : Pl b fl (i : Nat) (.lp (ba b k) :: r)
  | leaf {i k : Nat} {r : List Fr} (hi : i < fl.length) (hs : (fl.getD i default).stmt = (k : Nat)) (hk : k < b.length) (hb : aN (b.getD k default).kind = 0) (h : Pl b fl (fl.getD i default).next r) : Pl b fl (i : Nat) (.st (.node (b.getD k default) (k : Nat) []) :: r)
  | seq {i : Int} {k : Nat} {x y : Tr} {r : List Fr} (hb : (b.getD k default).kind = 1) (h : Pl b fl i (.st x :: .st y :: r)) : Pl b fl i (.st (.node (b.getD k default) (k : Nat) [x, y]) :: r)
  | cond {i k : Nat} {x y : Tr} {r : List Fr} (hi : i < fl.length) (hs : (fl.getD i default).stmt = (k : Nat)) (hk : k < b.length) (hb : (b.getD k default).kind = 7) (h1 : Pl b fl (fl.getD i default).next (.st x :: r)) (h2 : Pl b fl (fl.getD i default).other (.st y :: r)) : Pl b fl (i : Nat) (.st (.node (b.getD k default) (k : Nat) [x, y]) :: r)
  | loop {i k : Nat} {x : Tr} {r : List Fr} (hi : i < fl.length) (hs : (fl.getD i default).stmt = (k : Nat)) (hk : k < b.length) (hb : (b.getD k default).kind = 8) : Pl b fl (i : Nat) (.st (.node (b.getD k default) (k : Nat) [x]) :: r)

variable {pre post : List Tm} {b : List Sm} {k : Nat}
theorem zj (hk : k ≤ b.length) (hb : b.length ≤ 1000) : MQ h1 h2 131 [ptr [e6 pre, ie b, e6 post], eI (k : Nat)] [] (Plain (eI (ba b k : Nat))) := by
 refine aY ?_ Z
 refine jB 24 h1 h2 Tryz.func131 Z Z Z fun O hF => ?_
 refine ag (js O Z (bn (js O Z (jn (ah (ag (js O Z (jn (aq (aH (X := Nat) (fun i => ⟨[(0, ptr [e6 pre, ie b, e6 post]), (1, eI (k : Nat)), (5, eI (ba b i : Nat)), (6, eI i)], []⟩) (fun i => i ≤ k) (fun i => k - i) 0 (Ent.env ⟨Z, Z, Z, Z, trivial⟩) ?_ (fun i hi => ?_)))))))))))
 exact dF _
 refine ah (ag (j3 O Z Z Z (jf [9,0,1,5,6] Z (jn (ae O Z Z (fun hc9 => ?_) (fun hc9 => ?_))))))
 try simp only [cf] at hc9
 refine ak (ah (aq (ag (j4 O Z Z Z Z (js O Z ?_)))))
 have hn := fP (b := b) (k := i)
 refine aa (aO O Z Z Z Z Z Z Z Z (cU (by omega))) Z Z Z (j3 O Z Z Z (jf [20,9,0,1,5,6] Z (jn (ae O Z Z (fun hc20 => ?_) (fun hc20 => ?_)))))
 try simp only [cf] at hc20
 refine an (js O Z (ji O Z (js O Z (jf [5,20,9,0,1,6] Z (jn (an (js O Z (ji O Z (js O Z (jf [6,5,20,9,0,1] Z (jn ?_)))))))))))
 have hn := fP (b := b) (k := i)
 refine ⟨i + 1, Ent.env ⟨Z, Z, by rw [ba, if_pos hc20]; rfl, Z, trivial⟩, by omega, by omega⟩
 try simp only [cf] at hc20
 refine ak (an (js O Z (ji O Z (js O Z (jf [6,20,9,0,1,5] Z (jn ?_))))))
 refine ⟨i + 1, Ent.env ⟨Z, Z, by rw [ba, if_neg hc20]; rfl, Z, trivial⟩, by omega, by omega⟩
 try simp only [cf] at hc9
 refine bH (ag (j2 O Z Z (jr ?_)))
 refine ⟨.inl Z, _, av, _, Z, ?_⟩
 obtain rfl : i = k := by omega
 rfl
abbrev pP (pre : List Tm) (b : List Sm) (post : List Tm) : D := .ptr [e6 pre, ie b, e6 post] 0
abbrev gH (p fl : D) (frm : Int) (g : Gs) : List (Nat × B) := [(0, eU p fl frm g 1 2), (1, bE g.paths), (2, bF g.conds)]
abbrev gB (p fl : D) (frm : Int) (g : Gs) : List (Nat × B) := [(0, eU p fl frm g 5 6), (5, bE g.paths), (6, bF g.conds)]
theorem WOk.ctx {m : Nat} {w : Pw} (h : WOk m w) : CtxOk w.vars := ⟨h.ok, by have := h.vars; omega⟩
theorem xL {α β : Type} [Inhabited α] {l : List α} {f : α → β} {n j : Nat} (h : n < l.length) (hj : j = n) : (l.map f)[j]? = some (f (l.getD n default)) := by subst hj; simp [h]
theorem xE {α β : Type} {l : List α} {f : α → β} {n j : Nat} {v : α} {ds : β} (hj : j = n) (hd : ds = f v) : (l.map f).set j ds = (l.set n v).map f := by subst hj; subst hd; rw [List.map_set]
variable {fl : List Fl} {first : Bool}
theorem rI {at_ : Int} (hb : g.bad = true) : MQ h1 h2 83 [.c (.pt 0 0 0), eI at_, hA w, eB first] (gH (pP pre b post) (cS fl) frm g) (aS (.tup []) (gB (pP pre b post) (cS fl) frm g)) := by
 refine MC.shift 500 Z (MC.keep [500,505,506] (bs := [eU (pP pre b post) (cS fl) frm g 505 506, bE g.paths, bF g.conds]) Z Z (jH 206 [500,501,502] h1 h2 Tryz.func83 Z Z Z Z fun O hF => ?_))
 refine bK ?_
 refine ag (jx O Z (ap ?_))
 refine jn (ah (ag (j4 O Z Z Z Z (jf [19,6,0,1,2,3] Z (jn (ae O Z Z (fun hc19 => ?_) (fun hc19 => ?_)))))))
 refine ff ?_
 refine ⟨.inl Z, _, (ac 501 505 Z Z).trans (ac 502 506 Z Z), _, Z, Z, Z⟩
 exact absurd hc19 (by rw [hb]; decide)
theorem rG (hb : g.bad = false) (hw : CtxOk w.vars) (hv : w.vars.length = 4) (hf : TsOk post) (hg : g.conds.length + post.length ≤ L) (hp : g.paths.length + 1 ≤ L) : MQ h1 h2 83 [.c (.pt 0 0 0), eI (-1), hA w, eB first] (gH (pP pre b post) (cS fl) frm g) (aS (.tup []) (gB (pP pre b post) (cS fl) frm (cV frm w (-1) post g))) := by
 refine MC.shift 500 Z (MC.keep [500,505,506] (bs := [eU (pP pre b post) (cS fl) frm (cV frm w (-1) post g) 505 506, bE (cV frm w (-1) post g).paths, bF (cV frm w (-1) post g).conds]) Z Z (jH 206 [500,501,502] h1 h2 Tryz.func83 Z Z Z Z fun O hF => ?_))
 refine bK ?_
 refine ag (jx O Z (ap ?_))
 refine jn (ah (ag (j4 O Z Z Z Z (jf [19,6,0,1,2,3] Z (jn (ae O Z Z (fun hc19 => ?_) (fun hc19 => ?_)))))))
 exact absurd hc19 (by rw [hb]; decide)
 refine ak (ah (ag (j2 O Z Z (jf [21,6,0,1,2,3] Z (jn (ae O Z Z (fun hc21 => ?_) (fun hc21 => ?_)))))))
 refine ag (j4 O Z Z Z Z (j4 O Z Z Z Z (jf [29,22,6,0,1,2,3] Z (aj O [500,501,502,6] (bin := [eU (pP pre b post) (cS fl) frm g 1 2, bE g.paths, bF g.conds, hB w]) Z Z Z Z (vz (p := (pP pre b post)) (fl := (cS fl)) (frm := frm) (g := g) (w := w) (to := -1) (fs := post) h1 h2 hw hv hf hg hp) Z Z Z Z Z Z (B0 := 31000) Z Z (ap ?_)))))
 refine jf [6,0,1,2,3] Z (jr ?_)
 refine ⟨.inl Z, _, (ac 31005 505 Z Z).trans (ac 31006 506 Z Z), _, Z, Z, Z⟩
 exact absurd hc21 (by decide)
variable {i : Nat} {nx ot : Int} {s : Sm}
theorem l5 (hb : g.bad = false) (hi : i < fl.length) (he : fl.getD i default = ⟨(k : Nat), nx, ot⟩) (hk : k < b.length) (hbs : b.getD k default = s) (hk8 : s.kind = 8) (hb1 : b.length ≤ 1000) (hw : CtxOk w.vars) (hv : w.vars.length = 4) (hf : TsOk s.facts) (hg : g.conds.length + s.facts.length ≤ L) (hp : g.paths.length + 1 ≤ L) : MQ h1 h2 83 [.c (.pt 0 0 0), eI (i : Nat), hA w, eB false] (gH (pP pre b post) (cS fl) frm g) (aS (.tup []) (gB (pP pre b post) (cS fl) frm (cV frm w (ba b k : Nat) s.facts g))) := by
 refine MC.shift 500 Z (MC.keep [500,505,506] (bs := [eU (pP pre b post) (cS fl) frm (cV frm w (ba b k : Nat) s.facts g) 505 506, bE (cV frm w (ba b k : Nat) s.facts g).paths, bF (cV frm w (ba b k : Nat) s.facts g).conds]) Z Z (jH 206 [500,501,502] h1 h2 Tryz.func83 Z Z Z Z fun O hF => ?_))
 refine bK ?_
 refine ag (jx O Z (ap ?_))
 refine jn (ah (ag (j4 O Z Z Z Z (jf [19,6,0,1,2,3] Z (jn (ae O Z Z (fun hc19 => ?_) (fun hc19 => ?_)))))))
 exact absurd hc19 (by rw [hb]; decide)
 refine ak (ah (ag (j2 O Z Z (jf [21,6,0,1,2,3] Z (jn (ae O Z Z (fun hc21 => ?_) (fun hc21 => ?_)))))))
 exact absurd (bz hc21) (by omega)
 refine ak (ag (j4 O Z Z Z Z (js O Z (aa ((aO O Z Z Z Z Z Z Z Z (cU hi)).cast (v' := ptr (Fl.cells ⟨(k : Nat), nx, ot⟩)) (by rw [he])) Z Z Z (js O Z (jf [37,6,0,1,2,3] Z (jl O Z (ap ?_))))))))
 refine jo O Z (ap ?_)
 refine jn (ah (fc O [_,_,_,_,_,_,_,_,_,_,_] [pn [] 0 0, pn [0] 0 0, pn [0,1] 0 0, pn [0,1,2] 0 0, pn (rg 0 4) 0 0, pn (rg 0 5) 0 0, pn (rg 0 6) 0 0, pn [] 0 0, pn [7] 0 0, pn (rg 0 9) 0 0, pn (rg 0 10) 0 0] [] [_] (kc O Z (kc O Z (kc O Z (kc O Z (kc O Z (kc O Z (kc O Z (kc O Z (kc O Z (ai ((aO O Z Z Z Z Z Z Z Z (cU hk)).cast (v' := ptr (Sm.cells s)) (by rw [hbs])) (kc O Z trivial))))))))))) ?_))
 refine jw [9,8,37,6,0,1,2,3] Z (bK ?_)
 refine ah (ag (j4 O Z Z Z Z (jf [51,9,8,37,6,0,1,2,3] Z (jn (aq (ag (j2 O Z Z (jn (ae O Z Z (fun hc52 => ?_) (fun hc52 => ?_))))))))))
 exact absurd (bz hc52) (by omega)
 refine ag (j2 O Z Z (jf [71,53,51,9,8,37,6,0,1,2,3] Z (jn (ae O Z Z (fun hc71 => ?_) (fun hc71 => ?_)))))
 exact absurd (bz hc71) (by omega)
 refine ag (j2 O Z Z (jf [110,53,51,9,8,37,6,0,1,2,3] Z (jn (ae O Z Z (fun hc110 => ?_) (fun hc110 => ?_)))))
 exact absurd (bz hc110) (by omega)
 refine ag (j2 O Z Z (jf [117,53,51,9,8,37,6,0,1,2,3] Z (jn (ae O Z Z (fun hc117 => ?_) (fun hc117 => ?_)))))
 exact absurd (bz hc117) (by omega)
 refine ag (j2 O Z Z (jf [129,53,51,9,8,37,6,0,1,2,3] Z (jn (ae O Z Z (fun hc129 => ?_) (fun hc129 => ?_)))))
 exact absurd (bz hc129) (by omega)
 refine ah (ag (j2 O Z Z (jf [142,53,51,9,8,37,6,0,1,2,3] Z (jn (ae O Z Z (fun hc142 => ?_) (fun hc142 => ?_))))))
 exact absurd (bz hc142) (by omega)
 refine an (j2 O Z Z (jn (ae O Z Z (fun hc142 => ?_) (fun hc142 => ?_))))
 refine ah (ag (j4 O Z Z Z Z (j2 O Z Z (jf [150,144,53,51,9,8,37,6,0,1,2,3] Z (aw 2 Z Z Z (fun hx => ab hx Z Z Z (V O Z) Z Z ( ab hx Z Z Z (V O Z) Z Z ( AN.nil))) Z Z (aa (ar O Z Z Z Z Z) Z Z Z (jf [153,144,53,51,9,8,37,6,0,1,2] Z (jn (ae O Z Z (fun hc153 => ?_) (fun hc153 => ?_))))))))))
 refine ah (jw [144,53,51,9,8,37,6,0,1,2] Z (jj O [_,_,_,_,_,_,_,_,_,_,_,_,_] [pn [] 0 1, pn [] 0 0, pn [1] 0 0, pn [1,2] 0 0, pn [1,2,3] 0 0, pn [] 0 0, pn [5] 0 0, pe (rg 1 6) 0, pn [] 0 1, pn [8] 0 1, pn [8,9] 0 1, pn [8,9,10] 0 1, pe (rg 0 12) 1] [7,12] [_,_,_] [[], [501,502]] (ai (ka O Z Z (kw O Z Z)) (ka O Z Z (ka O Z Z (ka O Z Z (ka O Z Z (ka O Z Z (ka O Z Z (ai (ai (aI (bL O (B0 := 162000) Z Z Z Z (zj (pre := pre) (post := post) (b := b) (k := k) h1 h2 (by omega) hb1) (af Z) Z Z Z Z Z)) Z) (ai (ka O Z Z (kw O Z Z)) (ai (ka O Z Z (kw O Z Z)) (ai (ka O Z Z (kw O Z Z)) (ai (ka O Z Z (kw O Z Z)) (ai (ai (bU O [500,501,502,6] [501,502] (bin := [eU (pP pre b post) (cS fl) frm g 1 2, bE g.paths, bF g.conds, hB w]) Z Z Z Z (vz (p := (pP pre b post)) (fl := (cS fl)) (frm := frm) (g := g) (w := w) (to := (ba b k : Nat)) (fs := s.facts) h1 h2 hw hv hf hg hp) Z Z Z Z Z (B0 := 167000) Z Z Z Z Z Z Z) Z) trivial))))))))))))) ?_))
 refine jw [144,53,51,9,8,37,6,0,1,2] Z (bK ?_)
 refine ff ?_
 refine ⟨.inl Z, _, (ac 167005 505 Z Z).trans (ac 167006 506 Z Z), _, Z, Z, Z⟩
 exact absurd hc153 (by rw [hk8]; decide)
 exact absurd (cp hc142) (by omega)
theorem og {la : cF} {E : Pe} {frm : Int} {n : Nat} {r : List Fr} {w u : Pw} {g : Gs} (h : u.long = w.long) : (dx la E frm n r w (g.flag w.long)).flag u.long = dx la E frm n r w (g.flag w.long) := by
 rw [h]
 cases hl : w.long with
 | false => simp [Gs.flag]
 | true => rw [bX (by simp [Gs.flag])]; simp [Gs.flag]
variable {g4 : Gs}
theorem tY (hb : g.bad = false) (hi : i < fl.length) (he : fl.getD i default = ⟨(k : Nat), nx, ot⟩) (hk : k < b.length) (hbs : b.getD k default = s) (hkk : s.kind = 7) (hw : CtxOk w.vars) (hv : w.vars.length = 4) (hs : s.sum.ok = true ∧ s.sum.xs.length ≤ 4) (hl : w.facts.length ≤ 1000) {g3 : Gs} (ih1 : MQ h1 h2 83 [.c (.pt 0 0 0), eI nx, hA (w.fact (aD s.sum w.vars).1), eB false] (gH (pP pre b post) (cS fl) frm (((aR w s.sum g).flag (!(bu (aD s.sum w.vars).1).2)).flag (w.fact (aD s.sum w.vars).1).long)) (aS (.tup []) (gB (pP pre b post) (cS fl) frm g3))) (ih2 : MQ h1 h2 83 [.c (.pt 0 0 0), eI ot, hA (w.fact (bu (aD s.sum w.vars).1).1), eB false] (gH (pP pre b post) (cS fl) frm (g3.flag (w.fact (bu (aD s.sum w.vars).1).1).long)) (aS (.tup []) (gB (pP pre b post) (cS fl) frm g4))) : MQ h1 h2 83 [.c (.pt 0 0 0), eI (i : Nat), hA w, eB false] (gH (pP pre b post) (cS fl) frm g) (aS (.tup []) (gB (pP pre b post) (cS fl) frm g4)) := by
 refine MC.shift 500 Z (MC.keep [500,505,506] (bs := [eU (pP pre b post) (cS fl) frm g4 505 506, bE g4.paths, bF g4.conds]) Z Z (jH 206 [500,501,502] h1 h2 Tryz.func83 Z Z Z Z fun O hF => ?_))
 refine bK ?_
 refine ag (jx O Z (ap ?_))
 refine jn (ah (ag (j4 O Z Z Z Z (jf [19,6,0,1,2,3] Z (jn (ae O Z Z (fun hc19 => ?_) (fun hc19 => ?_)))))))
 exact absurd hc19 (by rw [hb]; decide)
 refine ak (ah (ag (j2 O Z Z (jf [21,6,0,1,2,3] Z (jn (ae O Z Z (fun hc21 => ?_) (fun hc21 => ?_)))))))
 exact absurd (bz hc21) (by omega)
 refine ak (ag (j4 O Z Z Z Z (js O Z (aa ((aO O Z Z Z Z Z Z Z Z (cU hi)).cast (v' := ptr (Fl.cells ⟨(k : Nat), nx, ot⟩)) (by rw [he])) Z Z Z (js O Z (jf [37,6,0,1,2,3] Z (jl O Z (ap ?_))))))))
 refine jo O Z (ap ?_)
 refine jn (ah (fc O [_,_,_,_,_,_,_,_,_,_,_] [pn [] 0 0, pn [0] 0 0, pn [0,1] 0 0, pn [0,1,2] 0 0, pn (rg 0 4) 0 0, pn (rg 0 5) 0 0, pn (rg 0 6) 0 0, pn [] 0 0, pn [7] 0 0, pn (rg 0 9) 0 0, pn (rg 0 10) 0 0] [] [_] (kc O Z (kc O Z (kc O Z (kc O Z (kc O Z (kc O Z (kc O Z (kc O Z (kc O Z (ai ((aO O Z Z Z Z Z Z Z Z (cU hk)).cast (v' := ptr (Sm.cells s)) (by rw [hbs])) (kc O Z trivial))))))))))) ?_))
 refine jw [9,8,37,6,0,1,2,3] Z (bK ?_)
 refine ah (ag (j4 O Z Z Z Z (jf [51,9,8,37,6,0,1,2,3] Z (jn (aq (ag (j2 O Z Z (jn (ae O Z Z (fun hc52 => ?_) (fun hc52 => ?_))))))))))
 exact absurd (bz hc52) (by omega)
 refine ag (j2 O Z Z (jf [71,53,51,9,8,37,6,0,1,2,3] Z (jn (ae O Z Z (fun hc71 => ?_) (fun hc71 => ?_)))))
 exact absurd (bz hc71) (by omega)
 refine ag (j2 O Z Z (jf [110,53,51,9,8,37,6,0,1,2,3] Z (jn (ae O Z Z (fun hc110 => ?_) (fun hc110 => ?_)))))
 exact absurd (bz hc110) (by omega)
 refine ag (j2 O Z Z (jf [117,53,51,9,8,37,6,0,1,2,3] Z (jn (ae O Z Z (fun hc117 => ?_) (fun hc117 => ?_)))))
 exact absurd (bz hc117) (by omega)
 refine ag (j2 O Z Z (jf [129,53,51,9,8,37,6,0,1,2,3] Z (jn (ae O Z Z (fun hc129 => ?_) (fun hc129 => ?_)))))
 exact absurd (bz hc129) (by omega)
 refine ah (ag (j2 O Z Z (jf [142,53,51,9,8,37,6,0,1,2,3] Z (jn (ae O Z Z (fun hc142 => ?_) (fun hc142 => ?_))))))
 refine ak (ae O Z Z (fun hc142 => ?_) (fun hc142 => ?_))
 refine ah (ag (j4 O Z Z Z Z (j2 O Z Z (jf [150,53,51,9,8,37,6,0,1,2,3] Z (aw 2 Z Z Z (fun hx => ab hx Z Z Z (V O Z) Z Z ( ab hx Z Z Z (V O Z) Z Z ( AN.nil))) Z Z (aa (ar O Z Z Z Z Z) Z Z Z (jf [153,53,51,9,8,37,6,0,1,2] Z (jn (ae O Z Z (fun hc153 => ?_) (fun hc153 => ?_))))))))))
 exact absurd hc153 (by rw [hkk]; decide)
 refine ak (ag (j4 O Z Z Z Z (jf [170,167,53,51,9,8,37,6,0,1,2] Z (aj O [500,501,502,6] (bin := [eU (pP pre b post) (cS fl) frm g 1 2, bE g.paths, bF g.conds, hB w]) Z Z Z Z (mv (p := (pP pre b post)) (fl := (cS fl)) (frm := frm) (g := g) (w := w) (t := s.sum) (ds := Sm.cells s) (j := 3) h1 h2 Z hw hs.1 (by omega)) Z Z Z Z Z Z (B0 := 172000) Z Z (ap ?_)))))
 refine jf [171,53,51,9,8,37,6,0,1,2] Z (jl O Z (ap ?_))
 refine jo O Z (ap ?_)
 refine bn (au (Ent.freeze 13 (e' := [(13, _), (0, _), (6, _), (8, _)]) Z (.cons Z (.c (.box (cs := Tm.cells (aD s.sum w.vars).1) Z (aC Z))) (fe [0,6,8] Z)) (.cons Z (.box (fk Z)) (.skip (.cons Z (.box (fk Z)) (.cons Z .row (.cons Z .row (.cons Z (.box (fk Z)) .nil))))))) ?_)
 refine ay O Z Z Z Z (yb (t := (aD s.sum w.vars).1) h1 h2 (Small.of dN)) (af Z) Z Z Z Z (B0 := 174000) Z Z (j3 O Z Z Z (jf [175,174,13,0,6,8] Z (jl O Z (ap ?_))))
 refine jo O Z (ap ?_)
 refine js O Z (jf [15,14,13,0,6,8] Z (bn (j4 O Z Z Z Z (j2 O Z Z (jf [181,176,15,14,13,0,6,8] Z (aw 2 Z Z Z (fun hx => ab hx Z Z Z (V O Z) Z Z ( ab hx Z Z Z (V O Z) Z Z ( AN.nil))) Z Z (aa ((bi O Z Z Z Z Z).cast (v' := eB ((aR w s.sum g).bad || !(bu (aD s.sum w.vars).1).2)) (congrArg eB xz)) Z Z Z (j2 O Z Z (jf [186,184,14,13,0,6,8] Z (jo O Z (ap ?_)))))))))))
 refine jf [14,13,0,6,8] Z (jn (ah (jj O [_,_,_,_,_,_,_] [pn [] 0 1, pn [] 0 1, pn [1] 0 1, pn [] 0 0, pn [] 0 0, pe [3,4] 0, pe (rg 0 6) 1] [5,6] [_,_,_] [[], [501,502]] (ai (ka O Z Z (kw O Z Z)) (ai (ka O Z Z (kw O Z Z)) (ai (ka O Z Z (kw O Z Z)) (ka O Z Z (ka O Z Z (ai (ai (aI (bO O [500,501,502,6] (bin := [eU (pP pre b post) (cS fl) frm ((aR w s.sum g).flag (!(bu (aD s.sum w.vars).1).2)) 1 2, bE ((aR w s.sum g).flag (!(bu (aD s.sum w.vars).1).2)).paths, bF ((aR w s.sum g).flag (!(bu (aD s.sum w.vars).1).2)).conds, hB w]) Z Z Z Z (n7 (p := (pP pre b post)) (fl := (cS fl)) (frm := frm) (g := ((aR w s.sum g).flag (!(bu (aD s.sum w.vars).1).2))) (w := w) (t := (aD s.sum w.vars).1) h1 h2 hl) Z Z Z Z Z (B0 := 193000) Z Z Z Z Z Z)) Z) (ai (ai (bU O [500,501,502] [501,502] (bin := [eU (pP pre b post) (cS fl) frm (((aR w s.sum g).flag (!(bu (aD s.sum w.vars).1).2)).flag (w.fact (aD s.sum w.vars).1).long) 1 2, bE (((aR w s.sum g).flag (!(bu (aD s.sum w.vars).1).2)).flag (w.fact (aD s.sum w.vars).1).long).paths, bF (((aR w s.sum g).flag (!(bu (aD s.sum w.vars).1).2)).flag (w.fact (aD s.sum w.vars).1).long).conds]) Z Z Z Z (ih1) Z Z Z Z Z (B0 := 194000) Z Z Z Z Z Z Z) Z) trivial))))))) ?_)))
 refine jw [14,13,0,6,8] Z (bK ?_)
 refine ah (jj O [_,_,_,_,_,_,_] [pn [] 0 1, pn [] 0 1, pn [1] 0 1, pn [] 0 0, pn [] 0 0, pe [3,4] 0, pe (rg 0 6) 1] [5,6] [_,_,_] [[], [194005,194006]] (ai (ka O Z Z (kw O Z Z)) (ai (ka O Z Z (kw O Z Z)) (ai (ka O Z Z (kw O Z Z)) (ka O Z Z (ka O Z Z (ai (ai (aI (bO O [500,194005,194006,6] (bin := [eU (pP pre b post) (cS fl) frm g3 1 2, bE g3.paths, bF g3.conds, hB w]) Z Z Z Z (n7 (p := (pP pre b post)) (fl := (cS fl)) (frm := frm) (g := g3) (w := w) (t := (bu (aD s.sum w.vars).1).1) h1 h2 hl) Z Z Z Z Z (B0 := 200000) Z Z Z Z Z Z)) Z) (ai (ai (bU O [500,194005,194006] [194005,194006] (bin := [eU (pP pre b post) (cS fl) frm (g3.flag (w.fact (bu (aD s.sum w.vars).1).1).long) 1 2, bE (g3.flag (w.fact (bu (aD s.sum w.vars).1).1).long).paths, bF (g3.flag (w.fact (bu (aD s.sum w.vars).1).1).long).conds]) Z Z Z Z (ih2) Z Z Z Z Z (B0 := 201000) Z Z Z Z Z Z Z) Z) trivial))))))) ?_)
 refine jw [14,13,0,6,8] Z (bK ?_)
 refine ff ?_
 refine ⟨.inl Z, _, (ac 201005 505 Z Z).trans (ac 201006 506 Z Z), _, Z, Z, Z⟩
 exact absurd (cp hc142) (by omega)
 exact absurd (cp hc142) (by omega)
theorem oZ (hb : g.bad = false) (hi : i < fl.length) (he : fl.getD i default = ⟨(k : Nat), nx, ot⟩) (hk : k < b.length) (hbs : b.getD k default = s) (hkk : s.kind = 8) (hw : CtxOk w.vars) (hv : w.vars.length = 4) (hs : s.sum.ok = true ∧ s.sum.xs.length ≤ 4) (hl : w.facts.length ≤ 1000) {g3 : Gs} (ih1 : MQ h1 h2 83 [.c (.pt 0 0 0), eI nx, hA (w.fact (aD s.sum w.vars).1), eB false] (gH (pP pre b post) (cS fl) frm (((aR w s.sum g).flag (!(bu (aD s.sum w.vars).1).2)).flag (w.fact (aD s.sum w.vars).1).long)) (aS (.tup []) (gB (pP pre b post) (cS fl) frm g3))) (ih2 : MQ h1 h2 83 [.c (.pt 0 0 0), eI ot, hA (w.fact (bu (aD s.sum w.vars).1).1), eB false] (gH (pP pre b post) (cS fl) frm (g3.flag (w.fact (bu (aD s.sum w.vars).1).1).long)) (aS (.tup []) (gB (pP pre b post) (cS fl) frm g4))) : MQ h1 h2 83 [.c (.pt 0 0 0), eI (i : Nat), hA w, eB true] (gH (pP pre b post) (cS fl) frm g) (aS (.tup []) (gB (pP pre b post) (cS fl) frm g4)) := by
 refine MC.shift 500 Z (MC.keep [500,505,506] (bs := [eU (pP pre b post) (cS fl) frm g4 505 506, bE g4.paths, bF g4.conds]) Z Z (jH 206 [500,501,502] h1 h2 Tryz.func83 Z Z Z Z fun O hF => ?_))
 refine bK ?_
 refine ag (jx O Z (ap ?_))
 refine jn (ah (ag (j4 O Z Z Z Z (jf [19,6,0,1,2,3] Z (jn (ae O Z Z (fun hc19 => ?_) (fun hc19 => ?_)))))))
 exact absurd hc19 (by rw [hb]; decide)
 refine ak (ah (ag (j2 O Z Z (jf [21,6,0,1,2,3] Z (jn (ae O Z Z (fun hc21 => ?_) (fun hc21 => ?_)))))))
 exact absurd (bz hc21) (by omega)
 refine ak (ag (j4 O Z Z Z Z (js O Z (aa ((aO O Z Z Z Z Z Z Z Z (cU hi)).cast (v' := ptr (Fl.cells ⟨(k : Nat), nx, ot⟩)) (by rw [he])) Z Z Z (js O Z (jf [37,6,0,1,2,3] Z (jl O Z (ap ?_))))))))
 refine jo O Z (ap ?_)
 refine jn (ah (fc O [_,_,_,_,_,_,_,_,_,_,_] [pn [] 0 0, pn [0] 0 0, pn [0,1] 0 0, pn [0,1,2] 0 0, pn (rg 0 4) 0 0, pn (rg 0 5) 0 0, pn (rg 0 6) 0 0, pn [] 0 0, pn [7] 0 0, pn (rg 0 9) 0 0, pn (rg 0 10) 0 0] [] [_] (kc O Z (kc O Z (kc O Z (kc O Z (kc O Z (kc O Z (kc O Z (kc O Z (kc O Z (ai ((aO O Z Z Z Z Z Z Z Z (cU hk)).cast (v' := ptr (Sm.cells s)) (by rw [hbs])) (kc O Z trivial))))))))))) ?_))
 refine jw [9,8,37,6,0,1,2,3] Z (bK ?_)
 refine ah (ag (j4 O Z Z Z Z (jf [51,9,8,37,6,0,1,2,3] Z (jn (aq (ag (j2 O Z Z (jn (ae O Z Z (fun hc52 => ?_) (fun hc52 => ?_))))))))))
 exact absurd (bz hc52) (by omega)
 refine ag (j2 O Z Z (jf [71,53,51,9,8,37,6,0,1,2,3] Z (jn (ae O Z Z (fun hc71 => ?_) (fun hc71 => ?_)))))
 exact absurd (bz hc71) (by omega)
 refine ag (j2 O Z Z (jf [110,53,51,9,8,37,6,0,1,2,3] Z (jn (ae O Z Z (fun hc110 => ?_) (fun hc110 => ?_)))))
 exact absurd (bz hc110) (by omega)
 refine ag (j2 O Z Z (jf [117,53,51,9,8,37,6,0,1,2,3] Z (jn (ae O Z Z (fun hc117 => ?_) (fun hc117 => ?_)))))
 exact absurd (bz hc117) (by omega)
 refine ag (j2 O Z Z (jf [129,53,51,9,8,37,6,0,1,2,3] Z (jn (ae O Z Z (fun hc129 => ?_) (fun hc129 => ?_)))))
 exact absurd (bz hc129) (by omega)
 refine ah (ag (j2 O Z Z (jf [142,53,51,9,8,37,6,0,1,2,3] Z (jn (ae O Z Z (fun hc142 => ?_) (fun hc142 => ?_))))))
 exact absurd (bz hc142) (by omega)
 refine an (j2 O Z Z (jn (ae O Z Z (fun hc142 => ?_) (fun hc142 => ?_))))
 refine ah (ag (j4 O Z Z Z Z (j2 O Z Z (jf [150,144,53,51,9,8,37,6,0,1,2,3] Z (aw 2 Z Z Z (fun hx => ab hx Z Z Z (V O Z) Z Z ( ab hx Z Z Z (V O Z) Z Z ( AN.nil))) Z Z (aa (ar O Z Z Z Z Z) Z Z Z (jf [153,144,53,51,9,8,37,6,0,1,2] Z (jn (ae O Z Z (fun hc153 => ?_) (fun hc153 => ?_))))))))))
 exact absurd hc153 (by rw [hkk]; decide)
 refine ak (ag (j4 O Z Z Z Z (jf [170,167,144,53,51,9,8,37,6,0,1,2] Z (aj O [500,501,502,6] (bin := [eU (pP pre b post) (cS fl) frm g 1 2, bE g.paths, bF g.conds, hB w]) Z Z Z Z (mv (p := (pP pre b post)) (fl := (cS fl)) (frm := frm) (g := g) (w := w) (t := s.sum) (ds := Sm.cells s) (j := 3) h1 h2 Z hw hs.1 (by omega)) Z Z Z Z Z Z (B0 := 172000) Z Z (ap ?_)))))
 refine jf [171,144,53,51,9,8,37,6,0,1,2] Z (jl O Z (ap ?_))
 refine jo O Z (ap ?_)
 refine bn (au (Ent.freeze 13 (e' := [(13, _), (0, _), (6, _), (8, _)]) Z (.cons Z (.c (.box (cs := Tm.cells (aD s.sum w.vars).1) Z (aC Z))) (fe [0,6,8] Z)) (.cons Z (.box (fk Z)) (.skip (.cons Z (.box (fk Z)) (.cons Z .row (.cons Z .row (.cons Z (.box (fk Z)) .nil))))))) ?_)
 refine ay O Z Z Z Z (yb (t := (aD s.sum w.vars).1) h1 h2 (Small.of dN)) (af Z) Z Z Z Z (B0 := 174000) Z Z (j3 O Z Z Z (jf [175,174,13,0,6,8] Z (jl O Z (ap ?_))))
 refine jo O Z (ap ?_)
 refine js O Z (jf [15,14,13,0,6,8] Z (bn (j4 O Z Z Z Z (j2 O Z Z (jf [181,176,15,14,13,0,6,8] Z (aw 2 Z Z Z (fun hx => ab hx Z Z Z (V O Z) Z Z ( ab hx Z Z Z (V O Z) Z Z ( AN.nil))) Z Z (aa ((bi O Z Z Z Z Z).cast (v' := eB ((aR w s.sum g).bad || !(bu (aD s.sum w.vars).1).2)) (congrArg eB xz)) Z Z Z (j2 O Z Z (jf [186,184,14,13,0,6,8] Z (jo O Z (ap ?_)))))))))))
 refine jf [14,13,0,6,8] Z (jn (ah (jj O [_,_,_,_,_,_,_] [pn [] 0 1, pn [] 0 1, pn [1] 0 1, pn [] 0 0, pn [] 0 0, pe [3,4] 0, pe (rg 0 6) 1] [5,6] [_,_,_] [[], [501,502]] (ai (ka O Z Z (kw O Z Z)) (ai (ka O Z Z (kw O Z Z)) (ai (ka O Z Z (kw O Z Z)) (ka O Z Z (ka O Z Z (ai (ai (aI (bO O [500,501,502,6] (bin := [eU (pP pre b post) (cS fl) frm ((aR w s.sum g).flag (!(bu (aD s.sum w.vars).1).2)) 1 2, bE ((aR w s.sum g).flag (!(bu (aD s.sum w.vars).1).2)).paths, bF ((aR w s.sum g).flag (!(bu (aD s.sum w.vars).1).2)).conds, hB w]) Z Z Z Z (n7 (p := (pP pre b post)) (fl := (cS fl)) (frm := frm) (g := ((aR w s.sum g).flag (!(bu (aD s.sum w.vars).1).2))) (w := w) (t := (aD s.sum w.vars).1) h1 h2 hl) Z Z Z Z Z (B0 := 193000) Z Z Z Z Z Z)) Z) (ai (ai (bU O [500,501,502] [501,502] (bin := [eU (pP pre b post) (cS fl) frm (((aR w s.sum g).flag (!(bu (aD s.sum w.vars).1).2)).flag (w.fact (aD s.sum w.vars).1).long) 1 2, bE (((aR w s.sum g).flag (!(bu (aD s.sum w.vars).1).2)).flag (w.fact (aD s.sum w.vars).1).long).paths, bF (((aR w s.sum g).flag (!(bu (aD s.sum w.vars).1).2)).flag (w.fact (aD s.sum w.vars).1).long).conds]) Z Z Z Z (ih1) Z Z Z Z Z (B0 := 194000) Z Z Z Z Z Z Z) Z) trivial))))))) ?_)))
 refine jw [14,13,0,6,8] Z (bK ?_)
 refine ah (jj O [_,_,_,_,_,_,_] [pn [] 0 1, pn [] 0 1, pn [1] 0 1, pn [] 0 0, pn [] 0 0, pe [3,4] 0, pe (rg 0 6) 1] [5,6] [_,_,_] [[], [194005,194006]] (ai (ka O Z Z (kw O Z Z)) (ai (ka O Z Z (kw O Z Z)) (ai (ka O Z Z (kw O Z Z)) (ka O Z Z (ka O Z Z (ai (ai (aI (bO O [500,194005,194006,6] (bin := [eU (pP pre b post) (cS fl) frm g3 1 2, bE g3.paths, bF g3.conds, hB w]) Z Z Z Z (n7 (p := (pP pre b post)) (fl := (cS fl)) (frm := frm) (g := g3) (w := w) (t := (bu (aD s.sum w.vars).1).1) h1 h2 hl) Z Z Z Z Z (B0 := 200000) Z Z Z Z Z Z)) Z) (ai (ai (bU O [500,194005,194006] [194005,194006] (bin := [eU (pP pre b post) (cS fl) frm (g3.flag (w.fact (bu (aD s.sum w.vars).1).1).long) 1 2, bE (g3.flag (w.fact (bu (aD s.sum w.vars).1).1).long).paths, bF (g3.flag (w.fact (bu (aD s.sum w.vars).1).1).long).conds]) Z Z Z Z (ih2) Z Z Z Z Z (B0 := 201000) Z Z Z Z Z Z Z) Z) trivial))))))) ?_)
 refine jw [14,13,0,6,8] Z (bK ?_)
 refine ff ?_
 refine ⟨.inl Z, _, (ac 201005 505 Z Z).trans (ac 201006 506 Z Z), _, Z, Z, Z⟩
 exact absurd (cp hc142) (by omega)
theorem qf (hb : g.bad = false) (hi : i < fl.length) (he : fl.getD i default = ⟨(k : Nat), nx, ot⟩) (hk : k < b.length) (hbs : b.getD k default = s) (hv : w.vars.length = 4) (hw : CtxOk w.vars) (hsv : s.kind = 2 ∨ s.kind = 3 → 0 ≤ s.var ∧ s.var ≤ 3) (hs : s.sum.ok = true ∧ s.sum.xs.length ≤ 4) (hx : s.index.ok = true ∧ s.index.xs.length ≤ 4) (hl : w.facts.length ≤ 1000) (hle : w.ev.length ≤ 1000) (hsy : w.sym ≤ 10) (hg : g.conds.length + 2 ≤ L) (hkl : s.kind ≠ 7 ∧ s.kind ≠ 8) (hs3 : s.kind = 3 → w.sym < 10) (ih : MQ h1 h2 83 [.c (.pt 0 0 0), eI nx, hA (bo bg s w g).1, eB false] (gH (pP pre b post) (cS fl) frm (bo bg s w g).2) (aS (.tup []) (gB (pP pre b post) (cS fl) frm g4))) : MQ h1 h2 83 [.c (.pt 0 0 0), eI (i : Nat), hA w, eB first] (gH (pP pre b post) (cS fl) frm g) (aS (.tup []) (gB (pP pre b post) (cS fl) frm g4)) := by
 refine MC.shift 500 Z (MC.keep [500,505,506] (bs := [eU (pP pre b post) (cS fl) frm g4 505 506, bE g4.paths, bF g4.conds]) Z Z (jH 206 [500,501,502] h1 h2 Tryz.func83 Z Z Z Z fun O hF => ?_))
 refine bK ?_
 refine ag (jx O Z (ap ?_))
 refine jn (ah (ag (j4 O Z Z Z Z (jf [19,6,0,1,2,3] Z (jn (ae O Z Z (fun hc19 => ?_) (fun hc19 => ?_)))))))
 exact absurd hc19 (by rw [hb]; decide)
 refine ak (ah (ag (j2 O Z Z (jf [21,6,0,1,2,3] Z (jn (ae O Z Z (fun hc21 => ?_) (fun hc21 => ?_)))))))
 exact absurd (bz hc21) (by omega)
 refine ak (ag (j4 O Z Z Z Z (js O Z (aa ((aO O Z Z Z Z Z Z Z Z (cU hi)).cast (v' := ptr (Fl.cells ⟨(k : Nat), nx, ot⟩)) (by rw [he])) Z Z Z (js O Z (jf [37,6,0,1,2,3] Z (jl O Z (ap ?_))))))))
 refine jo O Z (ap ?_)
 refine jn (ah (fc O [_,_,_,_,_,_,_,_,_,_,_] [pn [] 0 0, pn [0] 0 0, pn [0,1] 0 0, pn [0,1,2] 0 0, pn (rg 0 4) 0 0, pn (rg 0 5) 0 0, pn (rg 0 6) 0 0, pn [] 0 0, pn [7] 0 0, pn (rg 0 9) 0 0, pn (rg 0 10) 0 0] [] [_] (kc O Z (kc O Z (kc O Z (kc O Z (kc O Z (kc O Z (kc O Z (kc O Z (kc O Z (ai ((aO O Z Z Z Z Z Z Z Z (cU hk)).cast (v' := ptr (Sm.cells s)) (by rw [hbs])) (kc O Z trivial))))))))))) ?_))
 refine jw [9,8,37,6,0,1,2,3] Z (bK ?_)
 refine ah (ag (j4 O Z Z Z Z (jf [51,9,8,37,6,0,1,2,3] Z (jn ?_))))
 obtain ⟨d, ed⟩ : ∃ d, d = bo bg s w g := ⟨_, rfl⟩
 rw [← ed] at ih
 refine gm ⟨[(0, .c (.pt 500 0 0)), (6, .c (.pt 6 0 0)), (8, .c (.pt 8 0 0))], [(6, hB d.1), (8, .box [.d (.int .i64 (k : Nat)), .d (.int .i64 nx), .d (.int .i64 ot)]), (500, eU (pP pre b post) (cS fl) frm d.2 901 902), (901, bE d.2.paths), (902, bF d.2.conds)]⟩ ?_ ?_
 refine aq (ag (j2 O Z Z (jn (ae O Z Z (fun hc52 => ?_) (fun hc52 => ?_)))))
 refine ag (j4 O Z Z Z Z (jf [57,54,53,51,9,8,37,6,0,1,2,3] Z ?_))
 have hsv2 := hsv (.inl (bz hc52))
 refine aj O [500,501,502,6] (bin := [eU (pP pre b post) (cS fl) frm g 1 2, bE g.paths, bF g.conds, hB w]) Z Z Z Z (mv (p := (pP pre b post)) (fl := (cS fl)) (frm := frm) (g := g) (w := w) (t := s.sum) (ds := Sm.cells s) (j := 3) h1 h2 Z hw hs.1 (by omega)) Z Z Z Z Z Z (B0 := 59000) Z Z (ap ?_)
 refine jf [58,53,51,9,8,37,6,0,1,2,3] Z (jl O Z (ap ?_))
 refine jo O Z (ap ?_)
 refine bn (j2 O Z Z (jf [60,10,58,53,51,9,8,37,6,0,1,2,3] Z (jh O (B0 := 62000) Z Z Z Z (sn (ts := w.vars) h1 h2) (af Z) Z Z Z Z Z (ap ?_))))
 refine js O Z (jf [62,61,10,58,53,51,9,8,37,6,0,1,2,3] Z (jo O Z (ap ?_)))
 refine jf [10,58,53,51,9,8,37,6,0,1,2,3] Z (jn (fc O [_,_,_,_,_,_,_,_,_] [pn [] 0 0, pn [0] 0 0, pn [] 0 0, pn [2] 0 0, pn [2,3] 0 0, pn [2,3,4] 0 0, pn [] 0 0, pn (rg 0 7) 0 0, pe (rg 0 8) 0] [8] [_,_] (kc O Z (kc O Z (kc O Z (kc O Z (kc O Z (kc O Z (kc O Z (ai (vI O Z Z) (ai (cu (ex := Tm.cells (w.vars.getD s.var.toNat default)) (xs' := (w.vars.set s.var.toNat (aD s.sum w.vars).1).map Tm.cells) O Z Z Z Z Z Z Z Z Z Z Z Z Z Z Z (xL (by omega) (by omega)) (xE (v := (aD s.sum w.vars).1) (by omega) Z) Z) trivial))))))))) ?_))
 rw [ed, bo, if_pos (bz hc52)]
 exact ⟨Z, ((((am [6,8,500,501,502,62000] (e' := [(0, _), (6, _), (8, _)]) Z Z ⟨Z, Z, Z, trivial⟩ Z).trans (Ent.freeze 62000 (e' := [(0, _), (6, _), (8, _)]) Z (fe [0,6,8] Z) (.cons Z (.box (.cons (.row Z (by simp [hv])) (fk Z))) (.cons Z (.box (fk Z)) (.cons Z (.box (fk Z)) (.cons Z .row (.cons Z .row (.skip .nil)))))))).trans (ac 501 901 Z Z)).trans (ac 502 902 Z Z)).trans (Ent.to ⟨Z, Z, Z, trivial⟩ Z)⟩
 refine ag (j2 O Z Z (jf [71,53,51,9,8,37,6,0,1,2,3] Z (jn (ae O Z Z (fun hc71 => ?_) (fun hc71 => ?_)))))
 refine ag (j4 O Z Z Z Z (jf [76,73,53,51,9,8,37,6,0,1,2,3] Z ?_))
 have hsv2 := hsv (.inr (bz hc71))
 have hsy3 := hs3 (bz hc71)
 refine aj O [500,501,502,6] (bin := [eU (pP pre b post) (cS fl) frm g 1 2, bE g.paths, bF g.conds, hB w]) Z Z Z Z (sI (p := (pP pre b post)) (fl := (cS fl)) (frm := frm) (g := g) (w := w) (t := s.index) (ds := Sm.cells s) (j := 5) h1 h2 Z hw hx.1 (by omega) hg) Z Z Z Z Z Z (B0 := 78000) Z Z (ap ?_)
 refine jf [53,51,9,8,37,6,0,1,2,3] Z (jn (ah (ag (j3 O Z Z Z (jf [80,53,51,9,8,37,6,0,1,2,3] Z (jn (ae O Z Z (fun hc80 => ?_) (fun hc80 => ?_))))))))
 exact absurd (bz hc80) (by have := hs3 (bz hc71); omega)
 refine ak (ag (j2 O Z Z (ji O Z (jf [86,53,51,9,8,37,6,0,1,2,3] Z (AOps.heap (ep O Z Z Z Z Z Z Z Z Z (by first | omega | (simp at *; omega)) (by first | omega | (simp at *; omega)) (by first | omega | (simp at *; omega)) (by first | omega | (dsimp only; omega) | (simp only [cf] at *; omega)) (by first | omega | (simp at *; omega)) Z Z Z) Z (ap ?_))))))
 refine js O Z (jf [88,53,51,9,8,37,6,0,1,2,3] Z (jl O Z (ap ?_)))
 refine jo O Z (ap ?_)
 refine bn (j4 O Z Z Z Z (fI O Z Z (jf [93,11,88,53,51,9,8,37,6,0,1,2,3] Z (AOps.heap (cv (ex := [.int .i64 0]) (xs' := ((List.replicate w.sym 0 ++ [1] : List Int)).map (fun n => [D.int .i64 n])) O Z Z Z Z Z Z Z Z Z Z Z Z Z Z lg ld) Z (ap ?_)))))
 refine bn (au (Ent.freeze 87 (e' := [(0, _), (6, _), (8, _), (9, _), (11, _)]) Z (fe [0,6,8,9,11] Z) (.cons Z (.box (fk Z)) (.cons Z (.box (.cons (.keep Z) (.cons (.row Z (by simp)) .nil))) (.skip (.cons Z (.box (fk Z)) (.cons Z .row (.cons Z (.box (fk Z)) (.cons Z .row .nil)))))))) ?_)
 refine j2 O Z Z (jf [95,0,6,8,9,11] Z (jh O (B0 := 97000) Z Z Z Z (sn (ts := w.vars) h1 h2) (af Z) Z Z Z Z Z (ap ?_)))
 refine js O Z (jf [97,96,0,6,8,9,11] Z (jo O Z (ap ?_)))
 refine jf [0,6,8,9,11] Z (jn (ah (fc O [_,_,_,_,_,_,_,_,_] [pn [] 0 0, pn [0] 0 0, pn [] 0 0, pn [2] 0 0, pn [2,3] 0 0, pn [2,3,4] 0 0, pn [] 0 0, pn (rg 0 7) 0 0, pe (rg 0 8) 0] [8] [_,_] (kc O Z (kc O Z (kc O Z (kc O Z (kc O Z (kc O Z (kc O Z (ai (vI O Z Z) (ai (cu (ex := Tm.cells (w.vars.getD s.var.toNat default)) (xs' := (w.vars.set s.var.toNat (gz w.sym)).map Tm.cells) O Z Z Z Z Z Z Z Z Z Z Z Z Z Z Z (xL (by omega) (by omega)) (xE (v := (gz w.sym)) (by omega) Z) Z) trivial))))))))) ?_)))
 refine jw [0,6,8,9,11] Z (bK ?_)
 refine an (j2 O Z Z (ji O Z (js O Z (jf [109,108,0,6,8,9,11] Z (jo O Z (ap ?_))))))
 refine jf [0,6,8,9,11] Z (jn ?_)
 rw [ed, bo, if_neg (cp hc52), if_pos (bz hc71), if_neg (by omega)]
 exact ⟨Z, ((((am [6,8,500,501,78006,97000] (e' := [(0, _), (6, _), (8, _)]) Z Z ⟨Z, Z, Z, trivial⟩ Z).trans (Ent.freeze 97000 (e' := [(0, _), (6, _), (8, _)]) Z (fe [0,6,8] Z) (.cons Z (.box (.cons (.row Z (by simp [hv])) (fk Z))) (.cons Z (.box (fk Z)) (.cons Z (.box (fk Z)) (.cons Z .row (.cons Z .row (.skip .nil)))))))).trans (ac 501 901 Z Z)).trans (ac 78006 902 Z Z)).trans (Ent.to ⟨Z, Z, Z, trivial⟩ Z)⟩
 refine ag (j2 O Z Z (jf [110,53,51,9,8,37,6,0,1,2,3] Z (jn (ae O Z Z (fun hc110 => ?_) (fun hc110 => ?_)))))
 refine an (j4 O Z Z Z Z (jf [115,112,53,51,9,8,37,6,0,1,2,3] Z (aj O [500,501,502,6] (bin := [eU (pP pre b post) (cS fl) frm g 1 2, bE g.paths, bF g.conds, hB w]) Z Z Z Z (sI (p := (pP pre b post)) (fl := (cS fl)) (frm := frm) (g := g) (w := w) (t := s.index) (ds := Sm.cells s) (j := 5) h1 h2 Z hw hx.1 (by omega) hg) Z Z Z Z Z Z (B0 := 117000) Z Z (ap ?_))))
 refine jf [53,51,9,8,37,6,0,1,2,3] Z (jn ?_)
 rw [ed, bo, if_neg (cp hc52), if_neg (cp hc71), if_pos (bz hc110)]
 exact ⟨Z, (((am [6,8,500,501,117006] (e' := [(0, _), (6, _), (8, _)]) Z Z ⟨Z, Z, Z, trivial⟩ Z).trans (ac 501 901 Z Z)).trans (ac 117006 902 Z Z)).trans (Ent.to ⟨Z, Z, Z, trivial⟩ Z)⟩
 refine ag (j2 O Z Z (jf [117,53,51,9,8,37,6,0,1,2,3] Z (jn (ae O Z Z (fun hc117 => ?_) (fun hc117 => ?_)))))
 refine jw [53,51,9,8,37,6,0,1,2,3] Z (qw O [_,_,_,_,_,_,_,_,_,_,_] [pn [] 0 0, pn [0] 0 0, pe [0,1] 0, pn [] 0 1, pn [3] 0 1, pn [3,4] 0 1, pn [3,4,5] 0 1, pn [3,4,5,6] 0 1, pe [0,1,2,3,4,5,6,7] 1, pn [0,1,2,3,4,5,6,7,8] 2 2, pe [0,1,2,3,4,5,6,7,8,9] 2] [2,8,10] 7 126 (.row false 1 [[.int .i64 s.event]]) [_,_] [_,_] [[], [122000], []] (kf O Z Z Z (kf O Z Z Z (ai (ai (aF (aI (cR O (B0 := 122000) Z Z Z Z (vW (xs := w.ev) h1 h2) (af Z) Z Z Z Z Z)) (aI (cR O (B0 := 122000) Z Z Z Z (vW (xs := w.ev) h1 h2) (af Z) Z Z Z Z Z))) Z) (ai (kf O Z Z Z (kg O Z Z Z)) (ai (kf O Z Z Z (kg O Z Z Z)) (ai (kf O Z Z Z (kg O Z Z Z)) (ai (kf O Z Z Z (kg O Z Z Z)) (ai (ai (ai (aI (dD O Z Z Z Z Z Z Z Z Z Z Z Z Z Z)) Z) (ai (aI (dD O Z Z Z Z Z Z Z Z Z Z Z Z Z Z)) Z)) (ai (ai (aF trivial (cm (own := true) (xs := w.ev.map (fun n => [D.int .i64 n])) (ys := [[.int .i64 s.event]]) (zs := (w.ev ++ [s.event]).map (fun n => [D.int .i64 n])) (n := (w.ev ++ [s.event]).length) O Z Z Z Z Z Z Z Z Z Z Z Z Z Z Z Z (.row Z (cw _).symm) (.whole Z Z (.inl (by simp [Scal, D.scalar]))) (by simp) Z (by simp; omega) (by simp; omega) (by simp) (by simp) Z)) Z) (ai (ai (aF trivial (V O Z)) Z) (ai (ai (aF trivial (aI (eS O Z Z Z))) Z) trivial))))))))))) ?_)
 rw [ed, bo, if_neg (cp hc52), if_neg (cp hc71), if_neg (cp hc110), if_pos (bz hc117)]
 exact ⟨Z, ((((am [6,8,500,501,502,127] (e' := [(0, _), (6, _), (8, _)]) Z Z ⟨Z, Z, Z, trivial⟩ Z).trans (Ent.freeze 127 (e' := [(0, _), (6, _), (8, _)]) Z (fe [0,6,8] Z) (.cons Z (.box (.cons (.keep Z) (.cons (.keep Z) (.cons (.keep Z) (.cons (.row Z (by simp)) .nil))))) (.cons Z (.box (fk Z)) (.cons Z (.box (fk Z)) (.cons Z .row (.cons Z .row (.skip .nil)))))))).trans (ac 501 901 Z Z)).trans (ac 502 902 Z Z)).trans (Ent.to ⟨Z, Z, Z, trivial⟩ Z)⟩
 refine ag (j2 O Z Z (jf [129,53,51,9,8,37,6,0,1,2,3] Z (jn (ae O Z Z (fun hc129 => ?_) (fun hc129 => ?_)))))
 refine ag (j4 O Z Z Z Z (jf [134,131,53,51,9,8,37,6,0,1,2,3] Z (aj O [500,501,502,6] (bin := [eU (pP pre b post) (cS fl) frm g 1 2, bE g.paths, bF g.conds, hB w]) Z Z Z Z (mv (p := (pP pre b post)) (fl := (cS fl)) (frm := frm) (g := g) (w := w) (t := s.sum) (ds := Sm.cells s) (j := 3) h1 h2 Z hw hs.1 (by omega)) Z Z Z Z Z Z (B0 := 136000) Z Z (ap ?_))))
 refine jf [135,53,51,9,8,37,6,0,1,2,3] Z (jl O Z (ap ?_))
 refine jo O Z (ap ?_)
 refine bn (j2 O Z Z (aj O [500,501,502,6] (bin := [eU (pP pre b post) (cS fl) frm (aR w s.sum g) 1 2, bE (aR w s.sum g).paths, bF (aR w s.sum g).conds, hB w]) Z Z Z Z (qK (p := (pP pre b post)) (fl := (cS fl)) (frm := frm) (g := (aR w s.sum g)) (w := w) (t := (aD s.sum w.vars).1) h1 h2 (by simp only [aR, Gs.flag, Gs.goal, de, gt]; omega)) Z Z Z Z Z Z (B0 := 139000) Z Z (ap ?_)))
 refine jf [12,135,53,51,9,8,37,6,0,1,2,3] Z (jn (an (j2 O Z Z (aj O [500,501,139006,6] (bin := [eU (pP pre b post) (cS fl) frm ((aR w s.sum g).goal w (aD s.sum w.vars).1) 1 2, bE ((aR w s.sum g).goal w (aD s.sum w.vars).1).paths, bF ((aR w s.sum g).goal w (aD s.sum w.vars).1).conds, hB w]) Z Z Z Z (n7 (p := (pP pre b post)) (fl := (cS fl)) (frm := frm) (g := ((aR w s.sum g).goal w (aD s.sum w.vars).1)) (w := w) (t := (aD s.sum w.vars).1) h1 h2 hl) Z Z Z Z Z Z (B0 := 142000) Z Z (ap ?_)))))
 refine jf [141,12,135,53,51,9,8,37,6,0,1,2,3] Z (jo O Z (ap ?_))
 refine jn ?_
 rw [ed, bo, if_neg (cp hc52), if_neg (cp hc71), if_neg (cp hc110), if_neg (cp hc117), if_pos (bz hc129)]
 exact ⟨Z, (((am [6,8,500,501,139006] (e' := [(0, _), (6, _), (8, _)]) Z Z ⟨Z, Z, Z, trivial⟩ Z).trans (ac 501 901 Z Z)).trans (ac 139006 902 Z Z)).trans (Ent.to ⟨Z, Z, Z, trivial⟩ Z)⟩
 refine ah (ag (j2 O Z Z (jf [142,53,51,9,8,37,6,0,1,2,3] Z (jn (ae O Z Z (fun hc142 => ?_) (fun hc142 => ?_))))))
 exact absurd (bz hc142) (by omega)
 refine an (j2 O Z Z (jn (ae O Z Z (fun hc142 => ?_) (fun hc142 => ?_))))
 exact absurd (bz hc142) (by omega)
 refine ak ?_
 rw [ed, bo, if_neg (cp hc52), if_neg (cp hc71), if_neg (cp hc110), if_neg (cp hc117), if_neg (cp hc129)]
 exact ⟨Z, (((am [6,8,500,501,502] (e' := [(0, _), (6, _), (8, _)]) Z Z ⟨Z, Z, Z, trivial⟩ Z).trans (ac 501 901 Z Z)).trans (ac 502 902 Z Z)).trans (Ent.to ⟨Z, Z, Z, trivial⟩ Z)⟩
 refine an (j4 O Z Z Z Z (jf [204,203,201,0,6,8] Z (aj O [500,901,902] (bin := [eU (pP pre b post) (cS fl) frm d.2 1 2, bE d.2.paths, bF d.2.conds]) Z Z Z Z (ih) Z Z Z Z Z Z (B0 := 206000) Z Z (ap ?_))))
 refine jf [0,6,8] Z (jn ?_)
 show _ ∧ _
 refine ⟨.inr Z, _, (ac 206005 505 Z Z).trans (ac 206006 506 Z Z), _, Z, Z, Z⟩
theorem qg (hb : g.bad = false) (hi : i < fl.length) (he : fl.getD i default = ⟨(k : Nat), nx, ot⟩) (hk : k < b.length) (hbs : b.getD k default = s) (hk3 : s.kind = 3) (hv : w.vars.length = 4) (hw : CtxOk w.vars) (hx : s.index.ok = true ∧ s.index.xs.length ≤ 4) (hg : g.conds.length + 2 ≤ L) (hsy : w.sym = 10) : MQ h1 h2 83 [.c (.pt 0 0 0), eI (i : Nat), hA w, eB first] (gH (pP pre b post) (cS fl) frm g) (aS (.tup []) (gB (pP pre b post) (cS fl) frm (⟨(cd bg w s.index g).paths, (cd bg w s.index g).conds, true⟩ : Gs))) := by
 refine MC.shift 500 Z (MC.keep [500,505,506] (bs := [eU (pP pre b post) (cS fl) frm (⟨(cd bg w s.index g).paths, (cd bg w s.index g).conds, true⟩ : Gs) 505 506, bE (⟨(cd bg w s.index g).paths, (cd bg w s.index g).conds, true⟩ : Gs).paths, bF (⟨(cd bg w s.index g).paths, (cd bg w s.index g).conds, true⟩ : Gs).conds]) Z Z (jH 206 [500,501,502] h1 h2 Tryz.func83 Z Z Z Z fun O hF => ?_))
 refine bK ?_
 refine ag (jx O Z (ap ?_))
 refine jn (ah (ag (j4 O Z Z Z Z (jf [19,6,0,1,2,3] Z (jn (ae O Z Z (fun hc19 => ?_) (fun hc19 => ?_)))))))
 exact absurd hc19 (by rw [hb]; decide)
 refine ak (ah (ag (j2 O Z Z (jf [21,6,0,1,2,3] Z (jn (ae O Z Z (fun hc21 => ?_) (fun hc21 => ?_)))))))
 exact absurd (bz hc21) (by omega)
 refine ak (ag (j4 O Z Z Z Z (js O Z (aa ((aO O Z Z Z Z Z Z Z Z (cU hi)).cast (v' := ptr (Fl.cells ⟨(k : Nat), nx, ot⟩)) (by rw [he])) Z Z Z (js O Z (jf [37,6,0,1,2,3] Z (jl O Z (ap ?_))))))))
 refine jo O Z (ap ?_)
 refine jn (ah (fc O [_,_,_,_,_,_,_,_,_,_,_] [pn [] 0 0, pn [0] 0 0, pn [0,1] 0 0, pn [0,1,2] 0 0, pn (rg 0 4) 0 0, pn (rg 0 5) 0 0, pn (rg 0 6) 0 0, pn [] 0 0, pn [7] 0 0, pn (rg 0 9) 0 0, pn (rg 0 10) 0 0] [] [_] (kc O Z (kc O Z (kc O Z (kc O Z (kc O Z (kc O Z (kc O Z (kc O Z (kc O Z (ai ((aO O Z Z Z Z Z Z Z Z (cU hk)).cast (v' := ptr (Sm.cells s)) (by rw [hbs])) (kc O Z trivial))))))))))) ?_))
 refine jw [9,8,37,6,0,1,2,3] Z (bK ?_)
 refine ah (ag (j4 O Z Z Z Z (jf [51,9,8,37,6,0,1,2,3] Z (jn (aq (ag (j2 O Z Z (jn (ae O Z Z (fun hc52 => ?_) (fun hc52 => ?_))))))))))
 exact absurd (bz hc52) (by omega)
 refine ag (j2 O Z Z (jf [71,53,51,9,8,37,6,0,1,2,3] Z (jn (ae O Z Z (fun hc71 => ?_) (fun hc71 => ?_)))))
 refine ag (j4 O Z Z Z Z (jf [76,73,53,51,9,8,37,6,0,1,2,3] Z (aj O [500,501,502,6] (bin := [eU (pP pre b post) (cS fl) frm g 1 2, bE g.paths, bF g.conds, hB w]) Z Z Z Z (sI (p := (pP pre b post)) (fl := (cS fl)) (frm := frm) (g := g) (w := w) (t := s.index) (ds := Sm.cells s) (j := 5) h1 h2 Z hw hx.1 (by omega) hg) Z Z Z Z Z Z (B0 := 78000) Z Z (ap ?_))))
 refine jf [53,51,9,8,37,6,0,1,2,3] Z (jn (ah (ag (j3 O Z Z Z (jf [80,53,51,9,8,37,6,0,1,2,3] Z (jn (ae O Z Z (fun hc80 => ?_) (fun hc80 => ?_))))))))
 refine ag (j3 O Z Z Z (jf [83,53,51,9,8,37,6,0,1,2,3] Z (jo O Z (ap ?_))))
 refine jr ?_
 refine ⟨.inl Z, _, (ac 501 505 Z Z).trans (ac 78006 506 Z Z), _, Z, Z, Z⟩
 exact absurd (cp hc80) (by omega)
 exact absurd (cp hc71) (by omega)
theorem iE {g : Gs} : g.flag true = ⟨g.paths, g.conds, true⟩ := by simp [Gs.flag]
theorem fC {g : Gs} : g.flag false = g := by simp [Gs.flag]
theorem du : ∀ {t : Tr}, 1 ≤ t.nodes
 | .node _ _ _ => by simp [Tr.nodes]
structure EOk (E : Pe) (b : List Sm) : Prop where
  post : TsOk E.post ∧ E.post.length ≤ 6
  st : ∀ k, k < b.length → aW (b.getD k default) = true
  lf : ∀ k, k < b.length → (b.getD k default).kind = 8 → E.lf (ba b k) = (b.getD k default).facts
  num : ∀ k : Nat, k < b.length → (b.getD k default).kind = 8 → E.num (k : Nat) = ba b k
theorem ny {t : Tm} (h : t.term = true) : t.ok = true ∧ t.xs.length ≤ 4 := by
 unfold Tm.term at h
 simp only [bM, decide_eq_true_eq] at h; exact ⟨h.1, by omega⟩
theorem jI {ts : List Tm} (h : bW ts 6 = true) : TsOk ts ∧ ts.length ≤ 6 := by
 unfold bW at h
 simp only [bM, decide_eq_true_eq, List.all_eq_true] at h
 exact ⟨fun t ht => ny (h.1 t ht), by omega⟩
theorem fO {s : Sm} (h : aW s = true) : TsOk s.facts ∧ s.facts.length ≤ 6 := by
 refine jI ?_
 unfold aW m6 at h
 cases h1 : s.sum.term <;> cases h2 : s.index.term <;> cases h3 : bW s.facts 6 <;> simp [h1, h2, h3] at h ⊢
theorem GOk.end {frm : Int} {w : Pw} {to : Int} {fs : List Tm} {n m : Nat} {g : Gs} (h : GOk n g) (hb : g.bad = false) (hf : fs.length ≤ 6) : GOk (n + mf m) (cV frm w to fs g) :=
  (wy h hb).le (by have := pM (m := m); omega)
theorem fq {E : Pe} {b : List Sm} {fl : List Fl} (hE : EOk E b) {la : cF} {frm : Int} : ∀ {n : Nat} {r : List Fr} {w : Pw} {g : Gs} {c : Nat} {i : Int}, Pl b fl i r → GOk c g → GOk (c + mf (az r)) (dx la E frm n r w g)
 | 0, r, w, g, c, i, hp, hg => hg.le (Nat.le_add_right _ _)
 | n + 1, r, w, g, c, i, hp, hg => by
  cases hb : g.bad with
  | true => rw [bX hb]; exact hg.le (Nat.le_add_right _ _)
  | false =>
   cases hp with
   | nil => rw [el hb]; exact hg.end hb hE.post.2
   | lp hi hs hk h8 => rw [gK hb, hE.lf _ hk h8]; exact hg.end hb (fO (hE.st _ hk)).2
   | @leaf i k r hi hs hk h0 h =>
    rw [dB hb]
    refine (fq hE (n := n) h (nE hg)).le ?_
    have := lQ (m := az r)
    simp only [az, Fr.nodes, Tr.nodes, Trs.nodes, Nat.add_zero]
    rw [Nat.add_comm 1]; omega
   | @seq i k x y r h1 h =>
    rw [ej hb h1]
    refine (fq hE (n := n) h hg).le ?_
    have := bZ (m := az (.st x :: .st y :: r)) (n := az (.st (.node (b.getD k default) (k : Nat) [x, y]) :: r)) (by simp only [az, Fr.nodes, Tr.nodes, Trs.nodes]; omega)
    omega
   | @cond i k x y r hi hs hk h7 h1 h2 =>
    rw [fX hb (by omega)]
    have hx := du (t := x); have hy := du (t := y)
    refine (fq hE (n := n) h2 (fq hE (n := n) h1 hg.flag.flag.flag)).le ?_
    have e := nL (m := az (.st (.node (b.getD k default) (k : Nat) [x, y]) :: r) - 2)
    rw [show az (.st (.node (b.getD k default) (k : Nat) [x, y]) :: r) - 2 + 2 = az (.st (.node (b.getD k default) (k : Nat) [x, y]) :: r) by simp only [az, Fr.nodes, Tr.nodes, Trs.nodes]; omega] at e
    have e1 := bZ (m := az (.st x :: r)) (n := az (.st (.node (b.getD k default) (k : Nat) [x, y]) :: r) - 2) (by simp only [az, Fr.nodes, Tr.nodes, Trs.nodes]; omega)
    have e2 := bZ (m := az (.st y :: r)) (n := az (.st (.node (b.getD k default) (k : Nat) [x, y]) :: r) - 2) (by simp only [az, Fr.nodes, Tr.nodes, Trs.nodes]; omega)
    omega
   | loop hi hs hk h8 => rw [gJ hb]; exact hg.end hb (fO (hE.st _ hk)).2
theorem fT {k : Int} (h : aN k = 0) : k ≠ 1 ∧ k ≠ 7 ∧ k ≠ 8 := by
 refine ⟨?_, ?_, ?_⟩ <;> (rintro rfl; revert h; decide)
theorem j7 {fl : List Fl} {i k : Nat} (hs : (fl.getD i default).stmt = (k : Nat)) : fl.getD i default = ⟨(k : Nat), (fl.getD i default).next, (fl.getD i default).other⟩ := by rw [← hs]
theorem ik {s : Sm} (h : aW s = true) : (s.sum.ok = true ∧ s.sum.xs.length ≤ 4) ∧ (s.index.ok = true ∧ s.index.xs.length ≤ 4) := ⟨ny (cn h).1, ny (cn h).2⟩
theorem pC {s : Sm} (h : aW s = true) (hk : s.kind = 2 ∨ s.kind = 3) : 0 ≤ s.var ∧ s.var ≤ 3 := lF h (by unfold lr; rcases hk with h | h <;> rw [h] <;> decide)
theorem nC {w : Pw} {t u : Tm} : (w.fact t).long = (w.fact u).long := by simp [Pw.long, Pw.fact]
theorem lx {L : Nat} (h1 : 4096 ≤ L) (h2 : L ≤ 1073741824) {pre : List Tm} {b : List Sm} {fl : List Fl} {frm : Int} {E : Pe} (hE : EOk E b) (hbl : b.length ≤ 1000) : ∀ {n : Nat} {r : List Fr} {w : Pw} {g : Gs} {c : Nat} {i : Int}, Pl b fl i r → az r < n → WOk n w → GOk c g → c + mf (az r) ≤ L →
  MC Tryz.prog L 83 [.c (.pt 0 0 0), eI i, hA w, eB false] (gH (pP pre b E.post) (cS fl) frm g) (aS (.tup []) (gB (pP pre b E.post) (cS fl) frm (dx bg E frm n r w g)))
 | 0, r, w, g, c, i, hp, hn, hw, hg, hL => absurd hn (Nat.not_lt_zero _)
 | n + 1, r, w, g, c, i, hp, hn, hw, hg, hL => by
  have hge := pM (m := az r)
  have hgc := hg.conds
  have hgp := hg.paths
  cases hb : g.bad with
  | true => rw [bX hb]; exact rI h1 h2 hb
  | false =>
   cases hp with
   | nil => rw [el hb]; exact rG h1 h2 hb hw.ctx hw.vars hE.post.1 (by have := hE.post.2; omega) (by omega)
   | @lp i k r hi hs hk h8 =>
    rw [gK hb, hE.lf _ hk h8]
    have hf := fO (hE.st _ hk)
    exact l5 h1 h2 hb hi (j7 hs) hk Z h8 hbl hw.ctx hw.vars hf.1 (by omega) (by omega)
   | @leaf i k r hi hs hk h0 h =>
    rw [dB hb]
    have hst := hE.st _ hk
    have hne := fT h0
    have htm := ik hst
    have hbd := lQ (m := az r)
    simp only [az, Fr.nodes, Tr.nodes, Trs.nodes, Nat.add_zero, Nat.add_comm 1] at hL hn
    have hfa := hw.facts; have hev := hw.ev; have hsy := hw.sym
    by_cases hfull : (b.getD k default).kind = 3 ∧ w.sym = 10
    have e : (bo bg (b.getD k default) w g).2 = ⟨(cd bg w (b.getD k default).index g).paths, (cd bg w (b.getD k default).index g).conds, true⟩ := by
     unfold bo
     rw [if_neg (by omega), if_pos hfull.1, if_pos hfull.2, iE]
    rw [bX (by rw [e]), e]
    exact qg h1 h2 hb hi (j7 hs) hk Z hfull.1 hw.vars hw.ctx htm.2 (by omega) hfull.2
    exact qf h1 h2 hb hi (j7 hs) hk Z hw.vars hw.ctx (pC hst) htm.1 htm.2 (by omega) (by omega) hsy (by omega) ⟨hne.2.1, hne.2.2⟩ (fun e => by
     have : ¬ w.sym = 10 := fun e2 => hfull ⟨e, e2⟩
     omega) (lx h1 h2 hE hbl h (by omega) hw.leaf (nE hg) (by omega))
   | @seq i k x y r hk h =>
    rw [ej hb hk]
    refine lx h1 h2 hE hbl h (by simp only [az, Fr.nodes, Tr.nodes, Trs.nodes] at hn ⊢; omega) (hw.le (Nat.le_succ n)) hg ?_
    have := bZ (m := az (.st x :: .st y :: r)) (n := az (.st (.node (b.getD k default) (k : Nat) [x, y]) :: r)) (by simp only [az, Fr.nodes, Tr.nodes, Trs.nodes]; omega)
    omega
   | @cond i k x y r hi hs hk h7 p1 p2 =>
    have htm := ik (hE.st _ hk)
    have hx := du (t := x); have hy := du (t := y)
    have hfa := hw.facts
    have e := nL (m := az (.st (.node (b.getD k default) (k : Nat) [x, y]) :: r) - 2)
    rw [show az (.st (.node (b.getD k default) (k : Nat) [x, y]) :: r) - 2 + 2 = az (.st (.node (b.getD k default) (k : Nat) [x, y]) :: r) by simp only [az, Fr.nodes, Tr.nodes, Trs.nodes]; omega] at e
    have e1 := bZ (m := az (.st x :: r)) (n := az (.st (.node (b.getD k default) (k : Nat) [x, y]) :: r) - 2) (by simp only [az, Fr.nodes, Tr.nodes, Trs.nodes]; omega)
    have e2 := bZ (m := az (.st y :: r)) (n := az (.st (.node (b.getD k default) (k : Nat) [x, y]) :: r) - 2) (by simp only [az, Fr.nodes, Tr.nodes, Trs.nodes]; omega)
    rw [fX hb (by omega), c8]
    have hg2 : GOk c (((aR w (b.getD k default).sum g).flag (!(bu (aD (b.getD k default).sum w.vars).1).2)).flag (w.fact (aD (b.getD k default).sum w.vars).1).long) := hg.flag.flag.flag
    have hg3 := fq hE (la := bg) (frm := frm) (n := n) (w := w.fact (aD (b.getD k default).sum w.vars).1) p1 hg2
    have hfe := og (la := bg) (E := E) (frm := frm) (n := n) (r := .st x :: r) (w := w.fact (aD (b.getD k default).sum w.vars).1) (u := w.fact (bu (aD (b.getD k default).sum w.vars).1).1) (g := (aR w (b.getD k default).sum g).flag (!(bu (aD (b.getD k default).sum w.vars).1).2)) nC
    refine tY h1 h2 hb hi (j7 hs) hk Z h7 hw.ctx hw.vars htm.1 (by omega) (g3 := dx bg E frm n (.st x :: r) (w.fact (aD (b.getD k default).sum w.vars).1) (((aR w (b.getD k default).sum g).flag (!(bu (aD (b.getD k default).sum w.vars).1).2)).flag (w.fact (aD (b.getD k default).sum w.vars).1).long)) ?_ ?_
    exact lx h1 h2 hE hbl p1 (by simp only [az, Fr.nodes, Tr.nodes, Trs.nodes] at hn ⊢; omega) hw.fact hg2 (by omega)
    rw [hfe]
    exact lx h1 h2 hE hbl p2 (by simp only [az, Fr.nodes, Tr.nodes, Trs.nodes] at hn ⊢; omega) hw.fact hg3 (by omega)
   | @loop i k x r hi hs hk h8 =>
    rw [gJ hb, hE.num _ hk h8]
    have hf := fO (hE.st _ hk)
    exact l5 h1 h2 hb hi (j7 hs) hk Z h8 hbl hw.ctx hw.vars hf.1 (by omega) (by omega)
theorem w5 {E : Pe} (hE : EOk E b) (hbl : b.length ≤ 1000) {n : Nat} {r1 r2 : List Fr} {c : Nat} (hb : g.bad = false) (hi : i < fl.length) (hs : (fl.getD i default).stmt = (k : Nat)) (hk : k < b.length) (h8 : (b.getD k default).kind = 8)
  (p1 : Pl b fl (fl.getD i default).next r1) (p2 : Pl b fl (fl.getD i default).other r2) (hn1 : az r1 < n) (hn2 : az r2 < n) (hw : WOk (n + 1) w) (hg : GOk c g) (hL : c + mf (az r1) + mf (az r2) ≤ L) :
  MQ h1 h2 83 [.c (.pt 0 0 0), eI (i : Nat), hA w, eB true] (gH (pP pre b E.post) (cS fl) frm g) (aS (.tup []) (gB (pP pre b E.post) (cS fl) frm (c8 (dx bg E frm n r1) (dx bg E frm n r2) w (aD (b.getD k default).sum w.vars).1 (aR w (b.getD k default).sum g)))) := by
 have htm := ik (hE.st _ hk)
 have hfa := hw.facts
 rw [c8]
 have hg2 : GOk c (((aR w (b.getD k default).sum g).flag (!(bu (aD (b.getD k default).sum w.vars).1).2)).flag (w.fact (aD (b.getD k default).sum w.vars).1).long) := hg.flag.flag.flag
 have hg3 := fq hE (la := bg) (frm := frm) (n := n) (w := w.fact (aD (b.getD k default).sum w.vars).1) p1 hg2
 have hfe := og (la := bg) (E := E) (frm := frm) (n := n) (r := r1) (w := w.fact (aD (b.getD k default).sum w.vars).1) (u := w.fact (bu (aD (b.getD k default).sum w.vars).1).1) (g := (aR w (b.getD k default).sum g).flag (!(bu (aD (b.getD k default).sum w.vars).1).2)) nC
 refine oZ h1 h2 hb hi (j7 hs) hk Z h8 hw.ctx hw.vars htm.1 (by omega) (g3 := dx bg E frm n r1 (w.fact (aD (b.getD k default).sum w.vars).1) (((aR w (b.getD k default).sum g).flag (!(bu (aD (b.getD k default).sum w.vars).1).2)).flag (w.fact (aD (b.getD k default).sum w.vars).1).long)) ?_ ?_
 exact lx h1 h2 hE hbl p1 hn1 hw.fact hg2 (by omega)
 rw [hfe]
 exact lx h1 h2 hE hbl p2 hn2 hw.fact hg3 (by omega)
end Go.Al
